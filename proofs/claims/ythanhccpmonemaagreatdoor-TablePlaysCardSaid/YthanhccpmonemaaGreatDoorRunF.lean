/- run's laid, walked. -/
import Derived.Test.YthanhccpmonemaaGreatDoorRunE
namespace Go.Proofs.YthanhccpmonemaaGreatDoor
open Go.RowKit

theorem conv_bys {W : World} {base : Nat} {v : Value} {bs : List UInt8} (h : Bys W base v bs) (hn : 0 < bs.length) : (convert 31 9 v).run Tryz.prog W = .ok (.string ⟨bs.toArray⟩) W := by
  obtain ⟨g, c, rfl, hs⟩ := h.src hn
  have := run_convert_bytes_arg (P := Tryz.prog) W 31 5 Tryz.underlying31 Tryz.underlying5 g 0 bs.length c (bs.map fun x => (x.toNat : Int)) (by simp) (fun i hi => by
    have h1 := hs i (bCell bs[i]) (by simp [bRow, hi])
    have hadd : (⟨g, 0, none⟩ : Addr).add i = ⟨g, 0 + i, none⟩ := by unfold Addr.add; split <;> simp_all
    rw [hadd] at h1
    rw [h1]
    simp [bCell, hi]) 9 Tryz.underlying9
  rw [this]
  simp [strOfNums, Function.comp_def]

theorem lays_keeps {w w2 w3 : World} (h : Keeps [] w w2) (k : Lays w.heap.size w2 w3) : Keeps [] w w3 :=
  ⟨k.os.trans h.os, k.tape.trans h.tape, k.output.trans h.output, Nat.le_trans h.size k.size, fun b hb hn => by
    have hlt : b < w2.heap.size := Nat.lt_of_lt_of_le hb h.size
    rw [← h.block b hb hn, Array.getElem?_eq_getElem hlt]
    exact k.block b _ (Array.getElem?_eq_getElem hlt) (.inl hb)⟩

theorem tabB_pos (ttl : Int) (vs : List KV) : 0 < (tabB ttl vs).length := by
  have := numB_pos ttl.toNat
  simp only [tabB, List.length_append]; omega
theorem tabB_len {n : Nat} {vs : List KV} (hn : n ≤ 18446744073709551615) (hv : ∀ v ∈ vs, VOK v) (hl : vs.length ≤ 1000) : (tabB n vs).length ≤ 1000000 := by
  have h1 := numB_len64 (n := n) hn
  have h2 := numB_len64 (n := vs.length) (by omega)
  have h3 := entsB_len hv
  simp only [tabB, List.length_append, Int.toNat_natCast]; omega

set_option maxRecDepth 100000 in
set_option maxHeartbeats 4000000 in
theorem run_laid {w0 w : World} {t r : Nat} {fp : List Nat} {ttl : Int} {vs : List KV} (h : Both w0 w t r fp ttl vs) (hlen : vs.length ≤ 1000) (what : Int) (hw : -9223372036854775808 ≤ what ∧ what ≤ 9223372036854775807) (ao : Option Addr) (kn kc n : Nat) (sn st now : Int)
    (hp : pick13 what = 12) : Calls Tryz.prog 6 #[.pointer (some ⟨t, 0, none⟩), .pointer (some ⟨r, 0, none⟩), stepV what (.slice ao kn kc) n sn st, .int .u64 now] w (RunEnd w0 t r vs.length) := by
  have ht0 := h.ttl0
  have ht1 := h.ttl1
  obtain ⟨tn, htn⟩ : ∃ tn : Nat, ttl = tn := ⟨ttl.toNat, by omega⟩
  have hpos := tabB_pos ttl vs
  have hbl : (tabB ttl vs).length ≤ 1000000 := by rw [htn]; exact tabB_len (by omega) h.ok hlen
  have hss : ((⟨(tabB ttl vs).toArray⟩ : ByteArray).toList == (⟨(tabB ttl vs).toArray⟩ : ByteArray).toList) = true := by simp
  have hss2 : ((⟨(tabB ttl vs).toArray⟩ : ByteArray) == (⟨(tabB ttl vs).toArray⟩ : ByteArray)) = true := beq_self _
  obtain ⟨bs, hbs⟩ : ∃ bs, tabB ttl vs = bs := ⟨_, rfl⟩
  rw [hbs] at hpos hbl hss hss2
  have HBS := Lib.hid hbs; clear hbs htn
  have H := Lib.hid h; have HW := Lib.hid hw; have HP := Lib.hid hp; have HBL := Lib.hid hbl; clear h hw hp hbl
  have hka := Keeps.alloc [] w (stepC what (.slice ao kn kc) n sn st)
  have HKA := Lib.hid hka; clear hka
  go_enter Tryz.func6, Tryz.ntmps6
  go_wp2_with fail
  refine (pick_any what HW.out _).mono ?_
  rintro e w1 ⟨rfl, rfl⟩
  rw [HP.out]
  go_wp2_with fail
  generalize (w.alloc (stepC what (.slice ao kn kc) n sn st)) = wa at *
  refine (newwriter_any wa).mono ?_
  rintro e w2 ⟨rfl, hW2, hK2⟩
  have hba := hK2.size
  have HW2 := Lib.hid hW2; have HK2 := Lib.hid hK2; clear hW2 hK2
  go_wp2_with fail
  refine (lay_any (H.out.tab.keep (HKA.out.trans HK2.out (by simp)) (by simp)) HW2.out (Nat.le_refl _) hba ht0 (by omega) H.out.ok hlen).mono ?_
  rintro e w3 ⟨rfl, hW3, hL3⟩
  rw [HBS.out] at hW3
  have hk3 := lays_keeps HK2.out hL3
  generalize wa.heap.size = b at *
  clear hba HK2 HW2 hL3
  have HK3 := Lib.hid (HKA.out.trans hk3 (by simp)); have HW3 := Lib.hid hW3; clear hk3 hW3
  go_upto_region 27 with fail
  have hby : ∀ W, Keeps [] w3 W → Calls Tryz.prog 28 #[.pointer (some ⟨b, 0, none⟩)] W fun e w' => ∃ v, e = .returned v ∧ Bys w' W.heap.size v bs ∧ Keeps [] W w' := fun W hk => bytes_any (HW3.out.keep hk) HBL.out hpos
  have hrl : ∀ W, Keeps [] w3 W → Calls Tryz.prog 29 #[.pointer (some ⟨r, 0, none⟩)] W fun e w' => ∃ v, e = .returned v ∧ Bys w' W.heap.size v bs ∧ Keeps [] W w' := fun W hk => by
    rw [← HBS.out]
    exact rlay_any (H.out.ref.keep0 (HK3.out.trans hk (by simp))) ht0 (by omega) H.out.ok hlen
  go_region_with (first
    | (go_at_call 28; refine (hby _ (by first | exact Keeps.refl _ _ | exact Keeps.drew _ _)).mono ?_; rintro e w' ⟨v, rfl, hb1, hk1⟩; obtain ⟨g1, c1, rfl, _⟩ := hb1.src hpos; have hcv1 := conv_bys hb1 hpos)
    | (go_at_call 29; refine (hrl _ (by first | exact hk1 | exact (Keeps.drew _ _).trans hk1 (by simp) | exact ((Keeps.drew _ _).trans hk1 (by simp)).trans (Keeps.drew _ _) (by simp))).mono ?_; rintro e w' ⟨v, rfl, hb2, hk2⟩; obtain ⟨g2, c2, rfl, _⟩ := hb2.src hpos; have hcv2 := conv_bys hb2 hpos; have hcv3 := conv_bys (hb1.keep hk2) hpos))
  all_goals
    have hk9 : Keeps [] w w' := (HK3.out.trans (show Keeps [] w3 _ from by first | exact (Keeps.drew [] _).trans hk1 (by simp) | exact hk1) (by simp)).trans hk2 (by simp)
    have HK9 := Lib.hid hk9
    clear hk9 hk1 hk2 hb1 hb2 hcv1 hcv2 hcv3 hby hrl
    go_wp2_with fail
    go_ret
    exact ⟨rfl, fp, ttl, vs, ⟨H.out.tab.keep HK9.out (by simp), H.out.ref.keep0 HK9.out, H.out.keeps.trans HK9.out (by simp), H.out.fp, H.out.r, H.out.ok, ht0, ht1⟩, by omega⟩

/-- The entry that a step puts. -/
abbrev stepX (zs : List Int) (n : Nat) (now : Int) : KV := ⟨lets zs, 1, zClean n, ⟨#[]⟩, now⟩

theorem run_any {w0 w : World} {t r : Nat} {fp : List Nat} {ttl : Int} {vs : List KV} (h : Both w0 w t r fp ttl vs) (hlen : vs.length ≤ 1000) (what : Int) (hw : -9223372036854775808 ≤ what ∧ what ≤ 9223372036854775807) (ao : Option Addr) (kn kc n : Nat) (sn st now : Int)
    (h0 : 0 ≤ st) (h1 : st ≤ 18446744073709551615) (hn0 : 0 ≤ now) (hn1 : now ≤ 18446744073709551615) (zs : List Int) (hz : BytesZ w0 (.slice ao kn kc) zs) (hx : VOK (stepX zs n now)) :
    Calls Tryz.prog 6 #[.pointer (some ⟨t, 0, none⟩), .pointer (some ⟨r, 0, none⟩), stepV what (.slice ao kn kc) n sn st, .int .u64 now] w (RunEnd w0 t r vs.length) := by
  obtain ⟨p0, p1⟩ := pick13_bd what
  by_cases hp : pick13 what ≤ 4
  · exact run_put h hlen what hw ao kn kc n sn st now zs hz hx hp
  · have : pick13 what = 5 ∨ pick13 what = 6 ∨ pick13 what = 7 ∨ pick13 what = 8 ∨ (pick13 what = 9 ∨ pick13 what = 10) ∨ pick13 what = 11 ∨ pick13 what = 12 := by omega
    rcases this with hp | hp | hp | hp | hp | hp | hp
    · exact run_get h hlen what hw ao kn kc n sn st now zs (hz.keep h.keeps) hp
    · exact run_drop h hlen what hw ao kn kc n sn st now zs hz hp
    · exact run_clear h what hw ao kn kc n sn st now h0 h1 hp
    · exact run_expire h what hw ao kn kc n sn st now h0 h1 hp
    · exact run_purge h hlen what hw ao kn kc n sn st now hn0 hn1 hp
    · exact run_due h hlen what hw ao kn kc n sn st now hp
    · exact run_laid h hlen what hw ao kn kc n sn st now hp
end Go.Proofs.YthanhccpmonemaaGreatDoor
