/- run's Drop and Put, walked. -/
import Derived.Test.YthanhccpmonemaaGreatDoorRunC
namespace Go.Proofs.YthanhccpmonemaaGreatDoor
open Go.RowKit

/-- Amid a call of run: the two tables, the block in which the step lies. -/
structure DSt (w0 : World) (t r : Nat) (ttl : Int) (sb : Nat) (what : Int) (kv : Value) (n : Nat) (sn st : Int) (vt vr : List KV) (W : World) : Prop where
  keeps : Keeps [] w0 W
  blk : W.heap[sb]? = some (stepC what kv n sn st)
  tab : ∃ fp, Tab W t fp ttl vt ∧ ∀ x ∈ fp, w0.heap.size ≤ x
  ref : RTab W r w0.heap.size ttl vr
  r : w0.heap.size ≤ r

variable {w0 W : World} {t r : Nat} {ttl : Int} {sb : Nat} {what : Int} {kv : Value} {n : Nat} {sn st : Int} {vt vr : List KV}

theorem DSt.on (h : DSt w0 t r ttl sb what kv n sn st vt vr W) {W' : World} (hk : Keeps [] W W') : DSt w0 t r ttl sb what kv n sn st vt vr W' := by
  obtain ⟨fp, hT, hf⟩ := h.tab
  exact ⟨h.keeps.trans hk (by simp), hk.at h.blk (by simp), ⟨fp, hT.keep hk (by simp), hf⟩, h.ref.keep0 hk, h.r⟩
theorem DSt.drew (h : DSt w0 t r ttl sb what kv n sn st vt vr W) : DSt w0 t r ttl sb what kv n sn st vt vr W.drew := h.on (Keeps.drew [] W)
theorem DSt.cell1 (h : DSt w0 t r ttl sb what kv n sn st vt vr W) : W.cell? ⟨sb, 1, none⟩ = some kv := by
  have := cell_of_heap h.blk 1
  simpa using this
theorem DSt.cell2 (h : DSt w0 t r ttl sb what kv n sn st vt vr W) : W.cell? ⟨sb, 2, none⟩ = some (.float .f64 n) := by
  have := cell_of_heap h.blk 2
  simpa using this

theorem DSt.key (h : DSt w0 t r ttl sb what kv n sn st vt vr W) {zs : List Int} (hz : BytesZ w0 kv zs) :
    Calls Tryz.prog 16 #[kv] W fun e w' => e = .returned (.string (lets zs)) ∧ DSt w0 t r ttl sb what kv n sn st vt vr w' :=
  (key_fn (hz.keep h.keeps)).mono fun e w' ⟨he, k, hw⟩ => ⟨he, by subst hw; exact h.on (Keeps.drewN [] W k)⟩
theorem DSt.num (h : DSt w0 t r ttl sb what kv n sn st vt vr W) (x : Nat) :
    Calls Tryz.prog 12 #[.float .f64 x] W fun e w' => e = .returned (numV x) ∧ DSt w0 t r ttl sb what kv n sn st vt vr w' :=
  (num_any x W).mono fun e w' ⟨he, hk⟩ => ⟨he, h.on hk⟩
theorem DSt.ofTab (h : DSt w0 t r ttl sb what kv n sn st vt vr W) {fp fp2 : List Nat} {vt2 : List KV} {W' : World} (hT : Tab W t fp ttl vt) (hf : ∀ x ∈ fp, w0.heap.size ≤ x) (hT2 : Tab W' t fp2 ttl vt2) (hK2 : Keeps fp W W') (hG : Grew W fp fp2) : DSt w0 t r ttl sb what kv n sn st vt2 vr W' :=
  ⟨h.keeps.trans hK2 (fun x hx => .inr (hf x hx)), hK2.at h.blk (hT.other h.blk (by decide)), ⟨fp2, hT2, fun x hx => (hG x hx).elim (hf x) fun h1 => Nat.le_trans h.keeps.size h1⟩, h.ref.keep_tab hT hK2, h.r⟩
theorem DSt.ofRef (h : DSt w0 t r ttl sb what kv n sn st vt vr W) {vr2 : List KV} {W' : World} (hR2 : RTab W' r w0.heap.size ttl vr2) (hK2 : Keeps [r] W W') : DSt w0 t r ttl sb what kv n sn st vt vr2 W' := by
  obtain ⟨fp, hT, hf⟩ := h.tab
  refine ⟨h.keeps.trans hK2 (fun x hx => by simp at hx; subst hx; exact .inr h.r), hK2.at h.blk ?_, ⟨fp, hT.keep_ref h.ref hK2, hf⟩, hR2, h.r⟩
  intro hm
  simp at hm
  subst hm
  obtain ⟨lv, h0, _⟩ := h.ref
  rw [h.blk] at h0
  simp at h0
theorem DSt.drop (h : DSt w0 t r ttl sb what kv n sn st vt vr W) (key : ByteArray) {B : Bool} (hB : (kfind key vt).isSome = B) :
    Calls Tryz.prog 13 #[.pointer (some ⟨t, 0, none⟩), .string key] W fun e w' => e = .returned (.bool B) ∧ DSt w0 t r ttl sb what kv n sn st (kdel key vt) vr w' := by
  obtain ⟨fp, hT, hf⟩ := h.tab
  subst hB
  exact (drop_tab hT key).mono fun e w' ⟨he, fp2, hT2, hK2, hG⟩ => ⟨he, h.ofTab hT hf hT2 hK2 hG⟩
theorem DSt.rdrop (h : DSt w0 t r ttl sb what kv n sn st vt vr W) (key : ByteArray) {B : Bool} (hB : (kfind key vr).isSome = B) (hn : (rKeys vr).Nodup) (hl : vr.length ≤ 1000000) :
    Calls Tryz.prog 19 #[.pointer (some ⟨r, 0, none⟩), .string key] W fun e w' => e = .returned (.bool B) ∧ DSt w0 t r ttl sb what kv n sn st vt (kdel key vr) w' := by
  subst hB
  exact (rdrop_any h.ref h.keeps.size key hn hl).mono fun e w' ⟨he, hR2, hK2⟩ => ⟨he, h.ofRef hR2 hK2⟩
theorem DSt.put (h : DSt w0 t r ttl sb what kv n sn st vt vr W) (x : KV) :
    Calls Tryz.prog 11 #[.pointer (some ⟨t, 0, none⟩), .string x.key, .agg #[.int .i64 x.kd, .float .f64 x.n, .string x.s], .int .u64 x.t] W fun e w' => e = .returned (.tuple #[]) ∧ DSt w0 t r ttl sb what kv n sn st (kput x vt) vr w' := by
  obtain ⟨fp, hT, hf⟩ := h.tab
  exact (put_tab hT x).mono fun e w' ⟨he, fp2, hT2, hK2, hG⟩ => ⟨he, h.ofTab hT hf hT2 hK2 hG⟩
theorem DSt.rput (h : DSt w0 t r ttl sb what kv n sn st vt vr W) (x : KV) (hn : (rKeys vr).Nodup) (hl : vr.length + 1 ≤ 1000000) :
    Calls Tryz.prog 30 #[.pointer (some ⟨r, 0, none⟩), .string x.key, .agg #[.int .i64 x.kd, .float .f64 x.n, .string x.s], .int .u64 x.t] W fun e w' => e = .returned (.tuple #[]) ∧ DSt w0 t r ttl sb what kv n sn st vt (kput x vr) w' :=
  (rput_any h.ref h.keeps.size x hn hl).mono fun e w' ⟨he, hR2, hK2⟩ => ⟨he, h.ofRef hR2 hK2⟩

theorem kdel_mem {key : ByteArray} {vs : List KV} {v : KV} (h : v ∈ kdel key vs) : v ∈ vs := (List.mem_filter.1 h).1
theorem kdel_len (key : ByteArray) (vs : List KV) : (kdel key vs).length ≤ vs.length := List.length_filter_le _ _

theorem DSt.fin (h : DSt w0 t r ttl sb what kv n sn st vt vt W) {len : Nat} (hok : ∀ v ∈ vt, VOK v) (h0 : 0 ≤ ttl) (h1 : ttl ≤ 30) (hl : vt.length ≤ len + 1) : RunEnd w0 t r len (.returned (.bool true)) W := by
  obtain ⟨fp, hT, hf⟩ := h.tab
  exact ⟨rfl, fp, ttl, vt, ⟨hT, h.ref, h.keeps, hf, h.r, hok, h0, h1⟩, hl⟩

set_option maxRecDepth 100000 in
set_option maxHeartbeats 4000000 in
theorem run_drop {w0 w : World} {t r : Nat} {fp : List Nat} {ttl : Int} {vs : List KV} (h : Both w0 w t r fp ttl vs) (hlen : vs.length ≤ 1000) (what : Int) (hw : -9223372036854775808 ≤ what ∧ what ≤ 9223372036854775807) (ao : Option Addr) (kn kc n : Nat) (sn st now : Int)
    (zs : List Int) (hz : BytesZ w0 (.slice ao kn kc) zs)
    (hp : pick13 what = 6) : Calls Tryz.prog 6 #[.pointer (some ⟨t, 0, none⟩), .pointer (some ⟨r, 0, none⟩), stepV what (.slice ao kn kc) n sn st, .int .u64 now] w (RunEnd w0 t r vs.length) := by
  have ht0 := h.ttl0
  have ht1 := h.ttl1
  have hnd := h.tab.nodup
  have hd0 : DSt w0 t r ttl w.heap.size what (.slice ao kn kc) n sn st vs vs (w.alloc (stepC what (.slice ao kn kc) n sn st)) :=
    ⟨h.keeps.trans (Keeps.alloc [] w _) (by simp), h_new w _, ⟨fp, h.tab.keep (Keeps.alloc [] w _) (by simp), h.fp⟩, h.ref.keep0 (Keeps.alloc [] w _), h.r⟩
  have hok := h.ok
  obtain ⟨B, hB⟩ : ∃ B, (kfind (lets zs) vs).isSome = B := ⟨_, rfl⟩
  have HOK := Lib.hid hok; have HW := Lib.hid hw; have HP := Lib.hid hp; have HZ := Lib.hid hz; have HND := Lib.hid hnd; have HB := Lib.hid hB; clear h hw hp hz hnd hB hok
  go_enter Tryz.func6, Tryz.ntmps6
  go_wp2_with fail
  refine (pick_any what HW.out _).mono ?_
  rintro e w1 ⟨rfl, rfl⟩
  rw [HP.out]
  go_upto_region 9 with fail
  have hc0 := hd0.cell1
  generalize (w.alloc (stepC what (.slice ao kn kc) n sn st)) = wa at *
  go_region_with (first
    | (go_at_call 16; refine (DSt.key (w0 := w0) (t := t) (r := r) (ttl := ttl) (sb := w.heap.size) (what := what) (n := n) (sn := sn) (st := st) (by first | assumption | exact DSt.drew (by assumption)) HZ.out).mono ?_; rintro e w' ⟨rfl, hst⟩; have hcx := hst.cell1)
    | (go_at_call 13; go_loud (refine (DSt.drop (w0 := w0) (t := t) (r := r) (ttl := ttl) (sb := w.heap.size) (what := what) (n := n) (sn := sn) (st := st) (by first | assumption | exact DSt.drew (by assumption)) (lets zs) HB.out).mono ?_); rintro e w' ⟨rfl, hst⟩; have hcx := hst.cell1)
    | (go_at_call 19; go_loud (refine (DSt.rdrop (w0 := w0) (t := t) (r := r) (ttl := ttl) (sb := w.heap.size) (what := what) (n := n) (sn := sn) (st := st) (by first | assumption | exact DSt.drew (by assumption)) (lets zs) HB.out HND.out (by omega)).mono ?_); rintro e w' ⟨rfl, hst⟩; have hcx := hst.cell1))
  all_goals
    have hfin : RunEnd w0 t r vs.length (.returned (.bool true)) w' := hst.fin (fun v hv => HOK.out v (kdel_mem hv)) ht0 ht1 (by have := kdel_len (lets zs) vs; omega)
    have HFIN := Lib.hid hfin
    clear hfin hcx hst
    cases B
    all_goals
      go_wp2_with fail
      go_ret
      exact HFIN.out
end Go.Proofs.YthanhccpmonemaaGreatDoor
