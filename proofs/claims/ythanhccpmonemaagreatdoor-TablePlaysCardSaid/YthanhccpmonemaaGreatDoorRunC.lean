/- run's Get, walked. -/
import Derived.Test.YthanhccpmonemaaGreatDoorRunB
namespace Go.Proofs.YthanhccpmonemaaGreatDoor
open Go.RowKit

theorem Tab.nodup {w : World} {t : Nat} {fp : List Nat} {ttl : Int} {vs : List KV} (h : Tab w t fp ttl vs) : (rKeys vs).Nodup := by
  obtain ⟨m, es, l, clock, hr, _, rfl⟩ := h
  have := hr.keys
  simpa [rKeys, Ent.vis, Function.comp_def] using this

theorem BytesZ.lt {w : World} {v : Value} {zs : List Int} (h : BytesZ w v zs) {w' : World} (hk : ∀ b, b < w.heap.size → w'.heap[b]? = w.heap[b]?) : BytesZ w' v zs := by
  obtain ⟨hn, h | ⟨g, o, cap, rfl, hb⟩⟩ := h
  · exact ⟨hn, .inl h⟩
  · refine ⟨hn, .inr ⟨g, o, cap, rfl, fun j hj => ?_⟩⟩
    obtain ⟨h0, h1, hc⟩ := hb j hj
    have hg : g < w.heap.size := World.block_lt_of_cell? w ⟨g, o + j, none⟩ hc
    exact ⟨h0, h1, (World.cell?_of_block (a := ⟨g, o + j, none⟩) (hk g hg)).trans hc⟩
theorem BytesZ.keep {w w' : World} {v : Value} {zs : List Int} (h : BytesZ w v zs) (hk : Keeps [] w w') : BytesZ w' v zs :=
  h.lt fun b hb => hk.block b hb (by simp)

abbrev stepC (what : Int) (kv : Value) (n : Nat) (sn st : Int) : Obj := .cells #[.int .i64 what, kv, .float .f64 n, .int .u64 sn, .int .u64 st] 34

set_option maxRecDepth 100000 in
set_option maxHeartbeats 4000000 in
theorem run_get {w0 w : World} {t r : Nat} {fp : List Nat} {ttl : Int} {vs : List KV} (h : Both w0 w t r fp ttl vs) (hlen : vs.length ≤ 1000) (what : Int) (hw : -9223372036854775808 ≤ what ∧ what ≤ 9223372036854775807) (ao : Option Addr) (kn kc n : Nat) (sn st now : Int)
    (zs : List Int) (hz : BytesZ w (.slice ao kn kc) zs)
    (hp : pick13 what = 5) : Calls Tryz.prog 6 #[.pointer (some ⟨t, 0, none⟩), .pointer (some ⟨r, 0, none⟩), stepV what (.slice ao kn kc) n sn st, .int .u64 now] w (RunEnd w0 t r vs.length) := by
  have ht0 := h.ttl0
  have ht1 := h.ttl1
  have hnd := h.tab.nodup
  have H := Lib.hid h; have HW := Lib.hid hw; have HP := Lib.hid hp; have HZ := Lib.hid hz; have HND := Lib.hid hnd; clear h hw hp hz hnd
  obtain ⟨ga, gb, hgo⟩ : ∃ a b, gottenV (kfind (lets zs) vs) = .tuple #[a, b] := by
    unfold gottenV
    split <;> exact ⟨_, _, rfl⟩
  obtain ⟨kd, fn, fs, bb, hgv⟩ : ∃ kd fn fs bb, gottenV (kfind (lets zs) vs) = .tuple #[.agg #[.int .i64 kd, .float .f64 fn, .string fs], .bool bb] := by
    unfold gottenV
    split <;> exact ⟨_, _, _, _, rfl⟩
  clear hgo ga gb
  have HGV := Lib.hid hgv; clear hgv
  have hka := Keeps.alloc [] w (stepC what (.slice ao kn kc) n sn st)
  have hba := h_new w (stepC what (.slice ao kn kc) n sn st)
  have HKA := Lib.hid hka; have HBA := Lib.hid hba; clear hka hba
  go_enter Tryz.func6, Tryz.ntmps6
  go_wp2_with fail
  refine (pick_any what HW.out _).mono ?_
  rintro e w1 ⟨rfl, rfl⟩
  rw [HP.out]
  go_wp2_with fail
  refine (key_fn (HZ.out.keep HKA.out)).mono ?_
  rintro e w2 ⟨rfl, q2, rfl⟩
  have hk2 := HKA.out.trans (Keeps.drewN [] _ q2) (by simp)
  have hb2 := (Keeps.drewN [] _ q2).at HBA.out (by simp)
  generalize ((w.alloc (stepC what (.slice ao kn kc) n sn st)).drewN q2) = w2 at *
  have HK2 := Lib.hid hk2; have HB2 := Lib.hid hb2; clear hk2 hb2
  go_wp2_with fail
  refine (get_tab (H.out.tab.keep HK2.out (by simp)) (lets zs)).mono ?_
  rintro e w3 ⟨he, hk3⟩
  rw [HGV.out] at he
  subst he
  have HK3 := Lib.hid (HK2.out.trans hk3 (by simp)); have HB3 := Lib.hid (hk3.at HB2.out (by simp)); clear hk3
  go_wp2_with ((with_reducible show wpList _ _ _ (Oper.mk none (.store 47 _ _) _ _ _ _ :: _) _ _); refine stT 47 w3.heap.size 0 _ (h_new _ _) rfl (.agg #[.int .i64 kd, .float .f64 fn, .string fs]) rfl (by kernel_rfl) (by simp [Value.cells]) (by simp [Value.cells, Value.oneCell']) ?_)
  intro w4 hs4
  have hr4 := hs4.row
  have hk4 : Keeps [] w w4 := (HK3.out.trans (Keeps.alloc [] w3 _) (by simp)).trans hs4.keeps (by simp; exact HK3.out.size)
  have hb4 := hs4.keeps.at ((Keeps.alloc [] w3 (.cells #[.int .i64 0, .float .f64 0, .string ⟨#[]⟩] 47)).at HB3.out (by simp)) (by simp; have := h_lt HB3.out; omega)
  have c1 := cell_of_heap hb4 1
  simp at c1
  have HR4 := Lib.hid hr4; have HK4 := Lib.hid hk4; have HB4 := Lib.hid hb4; clear hr4 hk4 hb4 hs4
  go_wp2_with fail
  refine (key_fn (HZ.out.keep HK4.out)).mono ?_
  rintro e w5 ⟨rfl, q5, rfl⟩
  have hk5 := Keeps.drewN [] w4 q5
  clear c1
  generalize w4.drewN q5 = w5 at *
  have HK5 := Lib.hid (HK4.out.trans hk5 (by simp)); have HB5 := Lib.hid (hk5.at HB4.out (by simp)); have HR5 := Lib.hid (hk5.at HR4.out (by simp)); clear hk5 HK4 HB4 HR4
  go_wp2_with fail
  refine (rget_any (H.out.ref.keep0 HK5.out) (lets zs) HND.out (by omega)).mono ?_
  rintro e w6 ⟨he, hk6⟩
  rw [HGV.out] at he
  subst he
  have HK6 := Lib.hid (HK5.out.trans hk6 (by simp)); have HR6 := Lib.hid (hk6.at HR5.out (by simp)); clear hk6
  go_wp2_with ((with_reducible show wpList _ _ _ (Oper.mk none (.store 47 _ _) _ _ _ _ :: _) _ _); refine stT 47 w6.heap.size 0 _ (h_new _ _) rfl (.agg #[.int .i64 kd, .float .f64 fn, .string fs]) rfl (by kernel_rfl) (by simp [Value.cells]) (by simp [Value.cells, Value.oneCell']) ?_)
  intro w7 hs7
  have hr7 := hs7.row
  have hk7 : Keeps [] w w7 := (HK6.out.trans (Keeps.alloc [] w6 _) (by simp)).trans hs7.keeps (by simp; exact HK6.out.size)
  have hr4 := hs7.keeps.at ((Keeps.alloc [] w6 (.cells #[.int .i64 0, .float .f64 0, .string ⟨#[]⟩] 47)).at HR6.out (by simp)) (by simp; have := h_lt HR6.out; omega)
  have a0 := cell_of_heap hr4 0
  have a1 := cell_of_heap hr4 1
  have a2 := cell_of_heap hr4 2
  have b0 := cell_of_heap hr7 0
  have b1 := cell_of_heap hr7 1
  have b2 := cell_of_heap hr7 2
  simp at a0 a1 a2 b0 b1 b2
  have HK7 := Lib.hid hk7; clear hr7 hk7 hr4 hs7
  go_wp2_with fail
  refine (same_any kd fn fs w7).mono ?_
  rintro e w8 ⟨rfl, hk8⟩
  have HK8 := Lib.hid (HK7.out.trans hk8 (by simp)); clear hk8
  cases bb
  all_goals
    go_wp2_with fail
    go_ret
    exact ⟨rfl, fp, ttl, vs, ⟨H.out.tab.keep HK8.out (by simp), H.out.ref.keep0 HK8.out, H.out.keeps.trans HK8.out (by simp), H.out.fp, H.out.r, H.out.ok, ht0, ht1⟩, by omega⟩
end Go.Proofs.YthanhccpmonemaaGreatDoor
