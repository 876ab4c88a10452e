/- TablePlays, walked. -/
import Derived.Test.YthanhccpmonemaaGreatDoorRunF
import Derived.Deep.LoopGhost
namespace Go.Proofs.YthanhccpmonemaaGreatDoor
open Go.RowKit

/-- A slice of steps. -/
def StepsP (w : World) (a : Option Addr) (n : Nat) : Prop :=
  n ≤ 9223372036854775807 ∧ ∀ j, j < n → ∃ g o, a = some ⟨g, o, none⟩ ∧ g < w.heap.size ∧ ∃ what : Int, (-9223372036854775808 ≤ what ∧ what ≤ 9223372036854775807) ∧ w.cell? ⟨g, o + j * 5, none⟩ = some (.int .i64 what) ∧
    ∃ ao kn kc zs, w.cell? ⟨g, o + j * 5 + 1, none⟩ = some (.slice ao kn kc) ∧ BytesZ w (.slice ao kn kc) zs ∧
    ∃ fn : Nat, fn ≤ 18446744073709551615 ∧ w.cell? ⟨g, o + j * 5 + 2, none⟩ = some (.float .f64 fn) ∧
    ∃ sn st : Int, 0 ≤ sn ∧ sn ≤ 18446744073709551615 ∧ 0 ≤ st ∧ st ≤ 18446744073709551615 ∧ w.cell? ⟨g, o + j * 5 + 3, none⟩ = some (.int .u64 sn) ∧ w.cell? ⟨g, o + j * 5 + 4, none⟩ = some (.int .u64 st)

theorem vok_step {zs : List Int} {fn : Nat} {now : Int} (hf : fn ≤ 18446744073709551615) (h0 : 0 ≤ now) (h1 : now ≤ 18446744073709551615) : VOK (stepX zs fn now) := by
  have hs := letsTo_size zs 2
  refine ⟨rfl, rfl, cln_zClean fn, ?_, h0, h1, ?_⟩
  · show fBits (zClean fn) ≤ _
    unfold fBits zClean
    split
    · decide
    · split <;> omega
  · show (lets zs).size ≤ 100
    unfold lets
    omega

theorem Both.on {w0 w w' : World} {t r : Nat} {fp : List Nat} {ttl : Int} {vs : List KV} (h : Both w0 w t r fp ttl vs) (hk : Keeps [] w w') : Both w0 w' t r fp ttl vs :=
  ⟨h.tab.keep hk (by simp), h.ref.keep0 hk, h.keeps.trans hk (by simp), h.fp, h.r, h.ok, h.ttl0, h.ttl1⟩
theorem Both.rcell {w0 w : World} {t r : Nat} {fp : List Nat} {ttl : Int} {vs : List KV} (h : Both w0 w t r fp ttl vs) : ∃ la lc, w.cell? ⟨r, 0, none⟩ = some (.slice la vs.length lc) := by
  obtain ⟨lv, q0, q1⟩ := h.ref
  obtain ⟨la, lc, rfl⟩ := slice_shape5 q1
  have := cell_of_heap q0 0
  exact ⟨la, lc, by simpa using this⟩

def PlayAt (w : World) (t r n : Nat) (g : Nat) (now i : Value) (wr : World) : Prop :=
  ∃ k : Nat, k ≤ n ∧ k ≤ 200 ∧ g = min n 200 - k ∧ i = .int .i64 k ∧ ∃ nw : Int, now = .int .u64 nw ∧ 0 ≤ nw ∧ nw ≤ 9 * k ∧ ∃ fp ttl vs, Both w wr t r fp ttl vs ∧ vs.length ≤ k

set_option maxRecDepth 100000 in
set_option maxHeartbeats 4000000 in
theorem plays_walk (w : World) (a : Option Addr) (n cap : Nat) (hs : StepsP w a n) : Calls Tryz.prog 3 #[.slice a n cap] w fun e w' => e = .returned (.bool true) ∧ Keeps [] w w' := by
  obtain ⟨hn, hs⟩ := hs
  have HS := Lib.hid hs; clear hs
  go_enter Tryz.func3, Tryz.ntmps3
  go_wp2_with fail
  refine (new_tab w).mono ?_
  rintro e w1 ⟨t, fp1, rfl, hT1, hK1, hF1⟩
  go_wp2_with fail
  refine (known_any w1).mono ?_
  rintro e w2 ⟨rfl, hK2⟩
  have hT2 := hT1.keep hK2 (by simp)
  have hk2 : Keeps [] w w2 := hK1.trans hK2 (by simp)
  have hb : Both w (w2.alloc (.cells #[.slice none 0 0, .int .u64 0] 30)) t w2.heap.size fp1 0 [] :=
    ⟨hT2.keep (Keeps.alloc [] w2 _) (by simp), ⟨_, h_new w2 _, World.ownsRow_nil _ _ _ _⟩, hk2.trans (Keeps.alloc [] w2 _) (by simp), hF1, hk2.size, by simp, by omega, by omega⟩
  have HB := Lib.hid hb; clear hT1 hT2 hK1 hK2 hk2 hF1 hb
  go_wp2_with fail
  generalize w2.heap.size = r at *
  go_loopg [5, 6] (min n 200) (fun g now i wr => PlayAt w t r n g now i wr)
  case atStart => exact ⟨0, by omega, by omega, by omega, rfl, 0, rfl, by omega, by omega, fp1, 0, [], HB.out, by simp⟩
  case round =>
    obtain ⟨k, hk1, hk2, rfl, rfl, nw, rfl, hw0, hw1, fp, ttl, vs, hB, hvl⟩ := hrel
    have HBB := Lib.hid hB; clear hB HB
    by_cases hkn : k < n ∧ k < 200
    · obtain ⟨hk3, hk4⟩ := hkn
      obtain ⟨ga, oa, rfl, hga, what, hwb, hc0, ao, kn, kc, zs, hc1, hz, fn, hf, hc2, sn, st, hs0, hs1, ht0, ht1, hc3, hc4⟩ := HS.out k hk3
      have c0 := HBB.out.keeps.cell hga hc0
      have c1 := HBB.out.keeps.cell hga hc1
      have c2 := HBB.out.keeps.cell hga hc2
      have c3 := HBB.out.keeps.cell hga hc3
      have c4 := HBB.out.keeps.cell hga hc4
      have hgw : ga < wr.heap.size := Nat.lt_of_lt_of_le hga HBB.out.keeps.size
      have hm0 : 0 ≤ sn % 9 := by omega
      have hm1 : sn % 9 ≤ 8 := by omega
      have HWB := Lib.hid hwb; have HZ := Lib.hid hz; have HF := Lib.hid hf
      clear hwb hz hf hc0 hc1 hc2 hc3 hc4
      go_upto_region 10 with fail
      generalize hnx : nw + sn % 9 = nx at *
      have hx0 : 0 ≤ nx := by omega
      have hx1 : nx ≤ 9 * (k + 1) := by omega
      have hvx := vok_step (zs := zs) (fn := fn) (now := nx) HF.out hx0 (by omega)
      have HVX := Lib.hid hvx
      clear hnx hvx hm0 hm1 hw0 hw1
      go_region_with (first
        | (go_at_call 6; go_loud (refine (run_any (w0 := w) (fp := fp) (ttl := ttl) (vs := vs) (by first | exact HBB.out | exact HBB.out.on (Keeps.drew [] _)) (by omega) what HWB.out ao kn kc fn sn st nx ht0 ht1 hx0 (by omega) zs HZ.out HVX.out).mono ?_); rintro e w1' ⟨rfl, fp', ttl', vs', hB', hl'⟩; obtain ⟨la, lc, hcr⟩ := hB'.rcell)
        | (go_at_call 7; go_loud (refine (len_tab (by first | exact hB'.tab | exact (hB'.on (Keeps.drew [] _)).tab)).mono ?_); rintro e w2' ⟨rfl, rfl⟩)
        | (go_at_call 9; go_loud (refine (keys_tab (by first | exact hB'.tab | exact (hB'.on (Keeps.drew [] _)).tab) (by omega)).mono ?_); rintro e w3' ⟨v3, rfl, hS3, hT3, hK3⟩)
        | (go_at_call 10; go_loud (refine (rkeys_any (by first | exact (hB'.on hK3).ref | exact (hB'.on (hK3.trans (Keeps.drew [] _) (by simp))).ref) (by omega)).mono ?_); rintro e w4' ⟨v4, rfl, hS4, hK4⟩)
        | (go_at_call 8; go_loud (refine (strs_any (hS3.keep0 hK4).1 hS4).mono ?_); rintro e w5' ⟨he, q5, rfl⟩; rw [show strsEq (vs'.map (·.key)) (rKeys vs') = true from strsEq_true rfl] at he; subst he))
      all_goals
        have hBf : Both w _ t r fp' ttl' vs' := ((hB'.on hK3).on hK4).on (Keeps.drewN [] _ q5)
        have HBF := Lib.hid hBf
        clear hBf hS3 hT3 hK3 hS4 hK4 hB' hcr c0 c1 c2 c3 c4
        go_wp2_with fail
        go_roundg (min n 200 - (k + 1))
        case measure => omega
        case rel => exact ⟨k + 1, by omega, by omega, rfl, by go_num, nx, rfl, hx0, by omega, fp', ttl', vs', HBF.out, by omega⟩
    · by_cases h2 : k < n
      · have h3 : ¬ k < 200 := fun h => hkn ⟨h2, h⟩
        clear hkn
        go_wp2_with fail
        go_ret
        exact ⟨rfl, HBB.out.keeps⟩
      · clear hkn
        go_wp2_with fail
        go_ret
        exact ⟨rfl, HBB.out.keeps⟩
end Go.Proofs.YthanhccpmonemaaGreatDoor
