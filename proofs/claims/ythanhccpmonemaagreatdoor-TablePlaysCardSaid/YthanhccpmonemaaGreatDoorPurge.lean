/- table.Purge, walked: the due ones collected, then dropped one by one. -/
import Derived.Test.YthanhccpmonemaaGreatDoorKnown
namespace Go.Proofs.YthanhccpmonemaaGreatDoor
open Go.RowKit

def dueB (now ttl t : Int) : Bool := decide (t ≤ now) && decide (ttl ≤ now - t)
def dels (ks : List ByteArray) (vs : List KV) : List KV := ks.foldl (fun acc k => kdel k acc) vs

theorem kdel_filter (s : ByteArray) (vs : List KV) : kdel s vs = vs.filter fun v => !(s == v.key) := rfl
theorem dels_filter : ∀ (ks : List ByteArray) (vs : List KV), dels ks vs = vs.filter fun v => !(ks.any fun k => k == v.key)
  | [], vs => by simp only [dels, List.foldl_nil, List.any_nil, Bool.not_false]; exact (List.filter_eq_self.2 (fun _ _ => rfl)).symm
  | k :: ks, vs => by
    show dels ks (kdel k vs) = _
    rw [dels_filter ks, kdel_filter, List.filter_filter]
    congr 1
    funext v
    simp [List.any_cons, Bool.and_comm]

theorem purge_rest {f : KV → Bool} {vs : List KV} (hn : (vs.map (·.key)).Nodup) : dels ((vs.filter f).map (·.key)) vs = vs.filter fun v => !f v := by
  rw [dels_filter]
  apply List.filter_congr
  intro v hv
  congr 1
  cases hf : f v with
  | true =>
    rw [List.any_eq_true]
    exact ⟨v.key, List.mem_map_of_mem (List.mem_filter.2 ⟨hv, hf⟩), beq_self _⟩
  | false =>
    rw [List.any_eq_false]
    intro k hk hb
    obtain ⟨u, hu, rfl⟩ := List.mem_map.1 hk
    obtain ⟨hu1, hu2⟩ := List.mem_filter.1 hu
    have hkey : u.key = v.key := bytes_eq_of_beq hb
    have huv : u = v := by
      have : ∀ (l : List KV), (l.map (·.key)).Nodup → u ∈ l → v ∈ l → u = v := by
        intro l hl
        induction l with
        | nil => intro h; cases h
        | cons a r ih =>
          simp only [List.map_cons, List.nodup_cons, List.mem_map, not_exists, not_and] at hl
          intro h1 h2
          rcases List.mem_cons.1 h1 with e1 | h1
          · rcases List.mem_cons.1 h2 with e2 | h2
            · rw [e1, e2]
            · exact absurd (by rw [← hkey, e1]) (hl.1 v h2)
          · rcases List.mem_cons.1 h2 with e2 | h2
            · exact absurd (by rw [hkey, e2]) (hl.1 u h1)
            · exact ih hl.2 h1 h2
      exact this vs hn hu1 hv
    rw [huv] at hu2
    rw [hf] at hu2
    cases hu2

def gKeys (now ttl : Int) (p : List Ent) : List ByteArray := (p.filter fun e => dueB now ttl e.t).map (·.key)
theorem gKeys_snoc (now ttl : Int) (p : List Ent) (e : Ent) : gKeys now ttl (p ++ [e]) = gKeys now ttl p ++ if dueB now ttl e.t then [e.key] else [] := by
  unfold gKeys
  rw [List.filter_append, List.map_append]
  cases h : dueB now ttl e.t <;> simp [h]
theorem gKeys_len (now ttl : Int) (p : List Ent) : (gKeys now ttl p).length ≤ p.length := by
  unfold gKeys; rw [List.length_map]; exact List.length_filter_le _ _

def PurgeAt (w : World) (now ttl : Int) (es : List Ent) (k : Nat) (out x : Value) (wr : World) : Prop :=
  ∃ p q, es = p ++ q ∧ q.length = k ∧ x = ptr (nextB none q) ∧ wr.ownsRow w.heap.size 9 1 out (gKeys now ttl p).length ((gKeys now ttl p).map Value.string) ∧ Keeps [] w wr

def PurgeDel (w : World) (t : Nat) (fp : List Nat) (ttl : Int) (vs : List KV) (gs : List ByteArray) (v idx : Value) (wr : World) : Prop :=
  ∃ j : Nat, j ≤ gs.length ∧ idx = .int .i64 j ∧ ∃ fpj, Tab wr t fpj ttl (dels (gs.take j) vs) ∧ StrO wr v gs fpj ∧ Keeps fp w wr ∧ Grew w fp fpj

def PurgeEnd (w : World) (t : Nat) (fp : List Nat) (ttl : Int) (vs : List KV) (gs : List ByteArray) (e : Ending) (w' : World) : Prop :=
  ∃ v fp', e = .returned v ∧ StrO w' v gs fp' ∧ Tab w' t fp' ttl (dels gs vs) ∧ Keeps fp w w' ∧ Grew w fp fp'

set_option maxRecDepth 100000 in
set_option maxHeartbeats 2000000 in
theorem purge_any (w : World) (t m : Nat) (ttl now : Int) (es : List Ent) (l : List SE) (clock : Nat) (hr : TRep w t m ttl es l clock)
    (ht0 : 1 ≤ ttl) (ht1 : ttl ≤ 18446744073709551615) (hn0 : 0 ≤ now) (hn1 : now ≤ 18446744073709551615) (hts : ∀ e ∈ es, 0 ≤ e.t ∧ e.t ≤ 18446744073709551615) (hlen : es.length ≤ 1000000) :
    Calls Tryz.prog 22 #[.pointer (some ⟨t, 0, none⟩), .int .u64 now] w (PurgeEnd w t (t :: m :: es.map (·.b)) ttl (es.map Ent.vis) (gKeys now ttl es)) := by
  have hT : Tab w t (t :: m :: es.map (·.b)) ttl (es.map Ent.vis) := ⟨m, es, l, clock, hr, rfl, rfl⟩
  have h0 := hr.tab
  have c0 := cell_of_heap h0 0
  have c2 := cell_of_heap h0 2
  simp at c0 c2
  generalize hF : ptr (nextB none es) = F at *
  have HF := Lib.hid hF; clear hF
  have HT := Lib.hid hT; have H0 := Lib.hid h0; have HR := Lib.hid hr; have HTS := Lib.hid hts; clear hT h0 hr hts
  have htn : t < w.heap.size := h_lt H0.out
  obtain ⟨i0, hi, hz0, hz1, hz2⟩ := info_parts info9
  have HI := Lib.hid hi; have HZ0 := Lib.hid hz0; have HZ1 := Lib.hid hz1; have HZ2 := Lib.hid hz2; clear hi hz0 hz1 hz2
  have htz : (ttl != 0) = true := by rw [bne_iff_ne]; omega
  go_enter Tryz.func22, Tryz.ntmps22
  go_wp2_with fail
  go_loopg [5, 6] (es.length) (fun k out x wr => PurgeAt w now ttl es k out x wr)
  case atStart => exact ⟨[], es, rfl, rfl, HF.out.symm, World.ownsRow_nil _ _ _ _, Keeps.refl _ _⟩
  case round =>
    obtain ⟨p, q, hpq, hql, rfl, hown, hk⟩ := hrel
    cases q with
    | nil =>
      have hpe : p = es := by simpa using hpq.symm
      subst hpe
      clear hpq hql
      have hT' := HT.out.keep hk (by simp)
      have hgl := gKeys_len now ttl p
      have hsO : StrO wr u5 (gKeys now ttl p) (t :: m :: p.map (·.b)) := by
        refine ⟨StrS.of_row hown (by omega), fun k hv => ?_⟩
        have h1 := hown.lt k hv
        exact ⟨fun hm => by have := HT.out.lt k hm; omega, h1.2⟩
      have hsh : ∃ ao cap, u5 = .slice ao (gKeys now ttl p).length cap := by
        rcases hown.2 with ⟨h1, h2⟩ | ⟨g, cap, cur, h1, _⟩
        · exact ⟨none, 0, by rw [h2]; exact h1⟩
        · exact ⟨_, cap, h1⟩
      obtain ⟨ao, cap, rfl⟩ := hsh
      generalize hgs : gKeys now ttl p = gs at *
      have HGS := Lib.hid hgs; have HTR := Lib.hid hT'; have HSO := Lib.hid hsO; have HK := Lib.hid hk; clear hgs hT' hsO hown hk
      simp only [nextB, ptr_none]
      go_wp2_with fail
      obtain ⟨wo, rfl⟩ : ∃ wo : World, wo = wr := ⟨_, rfl⟩
      go_loopw [8, 54] (fun _ idx wv => PurgeDel w t (t :: m :: p.map (·.b)) ttl (p.map Ent.vis) gs (.slice ao gs.length cap) idx wv) (fun _ idx _ => gs.length - (intOf idx).toNat)
      case atStart => exact ⟨0, by omega, rfl, _, HTR.out, HSO.out, HK.out.weaken (by simp), fun _ h => .inl h⟩
      case round =>
        obtain ⟨j, hj, rfl, fpj, hTj, hSj, hKj, hGj⟩ := hrel
        by_cases hlt : j < gs.length
        · have hcell : ∃ g o, ao = some ⟨g, o, none⟩ ∧ wr.cell? ⟨g, o + j, none⟩ = some (.string gs[j]) := by
            rcases hSj.1.2 with ⟨_, h2⟩ | ⟨g, o, c', h1, h2⟩
            · rw [h2] at hlt; cases hlt
            · simp only [Value.slice.injEq] at h1
              exact ⟨g, o, h1.1, h2 j hlt⟩
          obtain ⟨g, o, rfl, hcj⟩ := hcell
          generalize hgj : gs[j] = kj at hcj
          have HGJ := Lib.hid hgj; have HTJ := Lib.hid hTj; have HSJ := Lib.hid hSj; have HKJ := Lib.hid hKj; have HGR := Lib.hid hGj; clear hgj hTj hSj hKj hGj
          go_wp2_with fail
          refine (drop_tab HTJ.out kj).mono ?_
          rintro e w2 ⟨rfl, fp2, hT2, hK2, hG2⟩
          generalize (kfind kj (dels (gs.take j) (p.map Ent.vis))).isSome = bb
          have HT2 := Lib.hid hT2; have HK2 := Lib.hid hK2; have HG2 := Lib.hid hG2; clear hT2 hK2 hG2
          go_wp2_with fail
          go_roundw
          case rel =>
            refine ⟨j + 1, by omega, by go_num, fp2, ?_, HSJ.out.keep HK2.out HG2.out, HKJ.out.trans HK2.out HGR.out, ?_⟩
            · have h2 := HT2.out
              have h3 : dels (gs.take (j + 1)) (p.map Ent.vis) = kdel kj (dels (gs.take j) (p.map Ent.vis)) := by
                rw [List.take_succ_eq_append_getElem hlt, HGJ.out, dels, List.foldl_append]
                rfl
              rw [h3]
              exact h2
            · intro x hx
              rcases HG2.out x hx with h | h
              · exact HGR.out x h
              · exact .inr (by have := HKJ.out.size; omega)
          case measure => simp [intOf]; omega
        · have hje : j = gs.length := by omega
          subst hje
          rw [List.take_length] at hTj
          have HTJ := Lib.hid hTj; have HSJ := Lib.hid hSj; have HKJ := Lib.hid hKj; have HGR := Lib.hid hGj; clear hTj hSj hKj hGj
          go_wp2_with fail
          go_ret
          rw [HGS.out]
          exact ⟨_, fpj, rfl, HSJ.out, HTJ.out, HKJ.out, HGR.out⟩
    | cons e q =>
      have hlp : p.length + 1 ≤ es.length := by rw [hpq]; simp
      have hgl := gKeys_len now ttl p
      have hcell := hk.at (chain_at (hpq ▸ HR.out.chain)) (by simp)
      have hte := HTS.out e (by rw [hpq]; simp)
      have hc0 : wr.cell? ⟨t, 0, none⟩ = some (.int .u64 ttl) := by have := hk.at H0.out (by simp); exact cell_of_heap this 0
      have A := Lib.hid hpq; have B := Lib.hid hql; clear hpq hql
      have e0 := cell_of_heap hcell 0
      have e4 := cell_of_heap hcell 4
      have e6 := cell_of_heap hcell 6
      simp [Ent.cells] at e0 e4 e6
      generalize hG : ptr (nextB none q) = G at *
      have HG := Lib.hid hG; clear hG
      obtain ⟨hte0, hte1⟩ := hte
      have E := Lib.hid hcell; clear hcell
      have hlt := h_lt E.out
      simp only [nextB, ptr_some]
      have hsz := hk.size
      by_cases h1 : e.t ≤ now
      · by_cases h2 : ttl ≤ now - e.t
        · have hd : dueB now ttl e.t = true := by simp [dueB, h1, h2]
          have HD := Lib.hid hd; clear hd
          have OW := Lib.hid hown; have HK := Lib.hid hk; clear hown hk
          go_wp2_with fail
          go_quiet (fail)
          go_wp2_with (at_builtin; refine wpList_append_own _ rfl _ _ 38 rfl w.heap.size 9 i0 (.string ⟨#[]⟩) 1 16 Tryz.underlying38 HI.out HZ0.out HZ1.out HZ2.out rfl (by decide) _ _ _ rfl (OW.out.alloc _) ⟨wr.heap.size, 0, none⟩ 1 1 [.string e.key] rfl rfl ?c1 ?c2 ?c3 ?c4 ?c5 ?_)
          case c1 =>
            intro j u hj
            cases j with
            | zero => simp at hj; subst hj; exact cell_of_heap (h_new (wr.drewN nq) _) 0
            | succ j => simp at hj
          case c2 => intro u hu; simp at hu; subst hu; rfl
          case c3 => simp only [maxLen]; omega
          case c4 => omega
          case c5 => simp; omega
          intro v' w1 hown' hgrow _
          have hk' : Keeps [] w w1 := by
            have h1 := Keeps.alloc [] (wr.drewN nq) (.cells #[.string e.key] 9)
            have h2 : Keeps (u5.ownBlock.toList) ((wr.drewN nq).alloc (.cells #[.string e.key] 9)) w1 := Keeps.grown hgrow fun k hk => by simp [hk]
            refine ((HK.out.trans (Keeps.drewN [] wr nq) (by simp)).trans h1 (by simp)).trans h2 ?_
            intro x hx
            simp at hx
            exact .inr (OW.out.lt x hx).1
          have E1 := hk'.at (chain_at (A.out ▸ HR.out.chain)) (by simp)
          have f6 := cell_of_heap E1 6
          simp [Ent.cells] at f6
          rw [HG.out] at f6
          clear hgrow e0 e4 e6 hlt hsz E1 hc0
          have OW' := Lib.hid hown'; have HK' := Lib.hid hk'; clear hown' hk'
          go_wp2_with fail
          go_roundg q.length
          case measure => have := B.out; simp at this; omega
          case rel =>
            refine ⟨p ++ [e], q, by have := A.out; simpa using this, rfl, HG.out.symm, ?_, HK'.out⟩
            have := OW'.out
            rw [gKeys_snoc, HD.out]
            simpa using this
        · have hd : dueB now ttl e.t = false := by simp [dueB, h2]
          have HD := Lib.hid hd; clear hd
          have OW := Lib.hid hown; have HK := Lib.hid hk; clear hown hk
          go_wp2_with fail
          go_quiet (fail)
          go_wp2_with fail
          go_roundg q.length
          case measure => have := B.out; simp at this; omega
          case rel =>
            refine ⟨p ++ [e], q, by have := A.out; simpa using this, rfl, HG.out.symm, ?_, HK.out.trans (Keeps.drewN [] wr nq) (by simp)⟩
            rw [gKeys_snoc, HD.out]
            simp only [Bool.false_eq_true, if_false, List.append_nil]
            exact OW.out
      · have hd : dueB now ttl e.t = false := by simp [dueB, h1]
        have hdc : decide (e.t ≤ now) = false := by simpa using h1
        have HD := Lib.hid hd; clear hd
        have OW := Lib.hid hown; have HK := Lib.hid hk; clear hown hk
        go_wp2_with fail
        go_quiet (fail)
        go_wp2_with fail
        go_roundg q.length
        case measure => have := B.out; simp at this; omega
        case rel =>
          refine ⟨p ++ [e], q, by have := A.out; simpa using this, rfl, HG.out.symm, ?_, HK.out.trans (Keeps.drewN [] wr nq) (by simp)⟩
          rw [gKeys_snoc, HD.out]
          simp only [Bool.false_eq_true, if_false, List.append_nil]
          exact OW.out

set_option maxHeartbeats 400000 in
theorem purge_never (w : World) (t m : Nat) (now : Int) (x2 x3 : Value) (h0 : w.heap[t]? = some (.cells #[.int .u64 0, .map (some m), x2, x3] 44 (0, 0))) (hx : ∃ o, x2 = .pointer o) :
    Calls Tryz.prog 22 #[.pointer (some ⟨t, 0, none⟩), .int .u64 now] w fun e w' => e = .returned (.slice none 0 0) ∧ w' = w := by
  have c2 := cell_of_heap h0 2
  have c0 := cell_of_heap h0 0
  simp at c2 c0
  have H0 := Lib.hid h0; clear h0
  obtain ⟨o, rfl⟩ := hx
  cases o with
  | none =>
    go_enter Tryz.func22, Tryz.ntmps22
    go_wp2_with fail
    refine wp_loop_rounds 1 ?_
    rw [rounds_succ]
    go_wp2_with fail
    refine wp_loop_rounds 1 ?_
    rw [rounds_succ]
    go_wp2_with fail
    go_ret
    exact ⟨rfl, rfl⟩
  | some a =>
    go_enter Tryz.func22, Tryz.ntmps22
    go_wp2_with fail
    refine wp_loop_rounds 1 ?_
    rw [rounds_succ]
    go_wp2_with fail
    refine wp_loop_rounds 1 ?_
    rw [rounds_succ]
    go_wp2_with fail
    go_ret
    exact ⟨rfl, rfl⟩

theorem gKeys_vis (now ttl : Int) (es : List Ent) : gKeys now ttl es = ((es.map Ent.vis).filter fun v => dueB now ttl v.t).map (·.key) := by
  unfold gKeys
  rw [List.filter_map, List.map_map]
  rfl

/-- What a Purge takes. -/
def goneV (now ttl : Int) (vs : List KV) : List KV := if ttl = 0 then [] else vs.filter fun v => dueB now ttl v.t
def restV (now ttl : Int) (vs : List KV) : List KV := if ttl = 0 then vs else vs.filter fun v => !dueB now ttl v.t

theorem purge_tab {w : World} {t : Nat} {fp : List Nat} {ttl : Int} {vs : List KV} (h : Tab w t fp ttl vs) (now : Int) (ht0 : 0 ≤ ttl) (ht1 : ttl ≤ 18446744073709551615) (hn0 : 0 ≤ now) (hn1 : now ≤ 18446744073709551615)
    (hts : ∀ v ∈ vs, 0 ≤ v.t ∧ v.t ≤ 18446744073709551615) (hlen : vs.length ≤ 1000000) :
    Calls Tryz.prog 22 #[.pointer (some ⟨t, 0, none⟩), .int .u64 now] w fun e w' =>
      ∃ v fp', e = .returned v ∧ StrO w' v ((goneV now ttl vs).map (·.key)) fp' ∧ Tab w' t fp' ttl (restV now ttl vs) ∧ Keeps fp w w' ∧ Grew w fp fp' := by
  have hT := h
  obtain ⟨m, es, l, clock, hr, rfl, rfl⟩ := h
  by_cases hz : ttl = 0
  · subst hz
    refine (purge_never w t m now _ _ hr.tab ⟨_, rfl⟩).mono ?_
    rintro e w' ⟨rfl, rfl⟩
    exact ⟨_, _, rfl, ⟨⟨by simp [goneV], .inl ⟨rfl, by simp [goneV]⟩⟩, fun k hk => by simp [Value.ownBlock] at hk⟩, by simpa [restV] using hT, Keeps.refl _ _, fun _ h => .inl h⟩
  · refine (purge_any w t m ttl now es l clock hr (by omega) ht1 hn0 hn1 (fun e he => hts e.vis (List.mem_map_of_mem he)) (by simpa using hlen)).mono ?_
    rintro e w' ⟨v, fp', rfl, g1, g2, g3, g4⟩
    have hk : ((es.map Ent.vis).map (·.key)).Nodup := by
      have := hr.keys
      simpa [Ent.vis, Function.comp_def] using this
    rw [gKeys_vis] at g1 g2
    rw [purge_rest hk] at g2
    refine ⟨v, fp', rfl, ?_, ?_, g3, g4⟩
    · rw [goneV, if_neg hz]; exact g1
    · rw [restV, if_neg hz]; exact g2
end Go.Proofs.YthanhccpmonemaaGreatDoor
