/- take put together; want, lines. Made by a program (mkP.py). -/
import Derived.Test.YtkfillfkbhbbjaaGreatDoorTokG
set_option maxRecDepth 100000
set_option maxHeartbeats 4000000
set_option linter.unusedSimpArgs false
set_option linter.unusedVariables false
namespace Go.Proofs.YtkfillfkbhbbjaaGreatDoor
open Go.RowKit

theorem next_any {w : World} (hG : Gl w) {s : ByteArray} {i : Nat} {op : Bool} {t : Tok} (h : nextF s i op = some t) (hi : i ≤ s.size) (hs : s.size ≤ 100000) :
  Calls Tryz.prog 62 #[.string s, .int .i64 i, .bool op] w fun r w' => r = .returned (.tuple #[tokV t, .int .i64 0]) ∧ Keeps [] w w' := by
 have hm : min i s.size = i := by omega
 rw [nextF, hm] at h
 cases hsk : skipF s (s.size + 1) i with
 | none => rw [hsk] at h; simp at h
 | some a =>
  rw [hsk] at h
  simp only [Option.bind_eq_bind, Option.bind_some] at h
  have hale := (skipF_le hsk).2 hi
  have hsa := fun W => skip_any hsk hi (by omega) W
  by_cases h3 : a < s.size
  ·rw [nth_some h3] at h
   generalize hz : ((s[a]'h3).toNat : Int) = c at *
   simp only at h
   by_cases h10 : c = 10
   ·rw [if_pos h10] at h
    obtain rfl := Option.some.inj h
    rcases Nat.eq_zero_or_pos i with rfl | hpos
    ·exact next_nl_z hG hsa hs h3 hz h10
    ·exact next_nl_p hG hpos hi hsa hs h3 hz h10
   ·rw [if_neg h10] at h
    cases hl : letterF c
    ·rw [hl] at h
     simp only [Bool.false_eq_true, if_false] at h
     by_cases h34 : c = 34
     ·subst h34
      rw [if_pos rfl, textF] at h
      cases hce : closesF s 34 (s.size + 1) (a + 1) with
      | none => rw [hce] at h; simp at h
      | some e =>
       rw [hce] at h
       simp only [Option.bind_eq_bind, Option.bind_some] at h
       cases hpl : plainF (s.extract (a + 1) e)
       ·rw [hpl] at h; simp at h
       ·rw [hpl] at h
        simp only [if_true, Option.some.injEq] at h
        subst h
        rcases Nat.eq_zero_or_pos i with rfl | hpos
        ·exact next_text_z hG hsa hs h3 hz hce hpl
        ·exact next_text_p hG hpos hi hsa hs h3 hz hce hpl
     ·rw [if_neg h34] at h
      cases hop : (decide (c = 47) && op)
      ·rw [hop] at h
       simp only [Bool.false_eq_true, if_false, otherF, Option.bind_eq_bind] at h
       have h47 : c = 47 → op = false := by
        intro h47
        cases op with
        | false => rfl
        | true => simp [h47] at hop
       cases hnu : numeralF s a with
       | none => rw [hnu] at h; simp at h
       | some e =>
        rw [hnu] at h
        simp only [Option.bind_some] at h
        rcases numeralF_le hnu h3 with rfl | rfl
        ·rw [if_neg (Nat.lt_irrefl _)] at h
         cases hsg : signF s e c with
         | none => rw [hsg] at h; simp at h
         | some x =>
          rw [hsg] at h
          simp only [Option.bind_some, Option.some.injEq] at h
          subst h
          by_cases h4 : c = 47
          ·rcases Nat.eq_zero_or_pos i with rfl | hpos
           ·exact next_signs_z hG hsa hs h3 hz h10 hl h34 h4 (h47 h4) hnu hsg
           ·exact next_signs_p hG hpos hi hsa hs h3 hz h10 hl h34 h4 (h47 h4) hnu hsg
          ·rcases Nat.eq_zero_or_pos i with rfl | hpos
           ·exact next_signn_z hG hsa hs h3 hz h10 hl h34 h4 hnu hsg
           ·exact next_signn_p hG hpos hi hsa hs h3 hz h10 hl h34 h4 hnu hsg
        ·rw [if_pos (Nat.lt_succ_self _)] at h
         by_cases hcc : c = 49 ∨ c = 50
         ·rw [if_pos hcc] at h
          simp only [Option.some.injEq] at h
          subst h
          have h4 : ¬ c = 47 := by omega
          rcases Nat.eq_zero_or_pos i with rfl | hpos
          ·exact next_numn_z hG hsa hs h3 hz h10 hl h34 h4 hnu hcc
          ·exact next_numn_p hG hpos hi hsa hs h3 hz h10 hl h34 h4 hnu hcc
         ·rw [if_neg hcc] at h
          simp at h
      ·rw [hop] at h
       simp at h
    ·rw [hl] at h
     simp only [if_true] at h
     cases hwe : wordEndF s (s.size + 1) a with
     | none => rw [hwe] at h; simp at h
     | some e =>
      rw [hwe] at h
      simp only [Option.bind_some, Option.some.injEq] at h
      subst h
      rcases Nat.eq_zero_or_pos i with rfl | hpos
      ·exact next_word_z hG hsa hs h3 hz h10 hl hwe
      ·exact next_word_p hG hpos hi hsa hs h3 hz h10 hl hwe
  ·rw [nth_none (by omega)] at h
   obtain rfl := Option.some.inj h
   have he : a = s.size := by omega
   rcases Nat.eq_zero_or_pos i with rfl | hpos
   ·exact next_end_z hG hsa hs he
   ·exact next_end_p hG hpos hi hsa hs he
end Go.Proofs.YtkfillfkbhbbjaaGreatDoor
namespace Go.Proofs.YtkfillfkbhbbjaaGreatDoor
open Go.RowKit

/-- Where the parser stands. -/
structure PSt where
 pos : Nat
 opn : Int
 ng : Bool

abbrev parC (s : ByteArray) (st : PSt) : Obj := .cells #[.string s, .int .i64 st.pos, .int .i64 st.opn, .bool st.ng, .int .i64 0, .complex .f64 0 0] 87

/-- The parser at p stands so, and nothing was wrong. -/
structure PP (s : ByteArray) (p : Nat) (st : PSt) (w : World) : Prop where
 gl : Gl w
 row : w.heap[p]? = some (parC s st)
 p : 14 < p
 size : s.size ≤ 4096
 le : st.pos ≤ s.size
 ob : -100 ≤ st.opn ∧ st.opn ≤ 40
theorem PP.keep {s : ByteArray} {p : Nat} {st : PSt} {w w' : World} (h : PP s p st w) (hk : Keeps [] w w') : PP s p st w' :=
 ⟨h.gl.keep hk (by simp), hk.at h.row (by simp), h.p, h.size, h.le, h.ob⟩

theorem nextF_le {s : ByteArray} {i : Nat} {op : Bool} {t : Tok} (h : nextF s i op = some t) (hi : i ≤ s.size) : t.fr ≤ t.to ∧ t.to ≤ s.size ∧ t.text.size ≤ s.size := by
 have hm : min i s.size = i := by omega
 have hb : (bs []).size = 0 := rfl
 rw [nextF, hm] at h
 cases hsk : skipF s (s.size + 1) i with
 | none => rw [hsk] at h; simp at h
 | some a =>
  rw [hsk] at h
  simp only [Option.bind_eq_bind, Option.bind_some] at h
  have hale := (skipF_le hsk).2 hi
  by_cases h3 : a < s.size
  ·rw [nth_some h3] at h
   simp only at h
   split at h
   ·obtain rfl := Option.some.inj h
    simp only; omega
   ·split at h
    ·cases hwe : wordEndF s (s.size + 1) a with
     | none => rw [hwe] at h; simp at h
     | some e =>
      rw [hwe] at h
      simp only [Option.bind_some, Option.some.injEq] at h
      subst h
      have := wordEndF_le hwe
      simp only [ByteArray.size_extract]; omega
    ·split at h
     ·rw [textF] at h
      cases hce : closesF s 34 (s.size + 1) (a + 1) with
      | none => rw [hce] at h; simp at h
      | some e =>
       rw [hce] at h
       simp only [Option.bind_eq_bind, Option.bind_some] at h
       split at h
       ·obtain rfl := Option.some.inj h
        have := closesF_lt hce
        simp only [ByteArray.size_extract]; omega
       ·cases h
     ·split at h
      ·cases h
      ·rw [otherF] at h
       cases hnu : numeralF s a with
       | none => rw [hnu] at h; simp at h
       | some e =>
        rw [hnu] at h
        simp only [Option.bind_eq_bind, Option.bind_some] at h
        have hle := numeralF_le hnu h3
        split at h
        ·split at h
         ·obtain rfl := Option.some.inj h
          simp only [ByteArray.size_extract]; omega
         ·cases h
        ·cases hsg : signF s a ((s[a]'h3).toNat : Int) with
         | none => rw [hsg] at h; simp at h
         | some x =>
          rw [hsg] at h
          simp only [Option.bind_some, Option.some.injEq] at h
          subst h
          have h2 := signF_pos hsg h3
          have h4 : a + x.size ≤ s.size := by
           unfold signF at hsg
           split at hsg
           ·rename_i hc
            simp at hc
            obtain rfl := Option.some.inj hsg
            rw [ByteArray.size_extract]; omega
           ·split at hsg
            ·obtain rfl := Option.some.inj hsg
             rw [ByteArray.size_extract]; omega
            ·cases hsg
          simp only; omega
  ·rw [nth_none (by omega)] at h
   obtain rfl := Option.some.inj h
   simp only; omega

theorem ok_any {s : ByteArray} {p : Nat} {st : PSt} {w : World} (h : PP s p st w) : Calls Tryz.prog 34 #[.pointer (some ⟨p, 0, none⟩)] w fun r w' => r = .returned (.bool true) ∧ w' = w := by
 have c4 := cell_of_heap h.row 4
 simp at c4
 have hlt := h_lt h.row
 clear h
 go_enter Tryz.func34, Tryz.ntmps34
 go_wp2_with fail
 go_ret
 exact ⟨rfl, rfl⟩

set_option maxRecDepth 100000 in
set_option maxHeartbeats 1000000 in
theorem peek_any {s : ByteArray} {p : Nat} {st : PSt} {w : World} (h : PP s p st w) {i : Nat} {t : Tok} (ht : nextF s i false = some t) (hi : i ≤ s.size) :
  Calls Tryz.prog 61 #[.pointer (some ⟨p, 0, none⟩), .int .i64 i] w fun r w' => r = .returned (.tuple #[tokV t, .bool true]) ∧ Keeps [] w w' := by
 have c0 := cell_of_heap h.row 0
 simp at c0
 have hlt := h_lt h.row
 have hN := fun W (hG : Gl W) => next_any hG ht hi (by have := h.size; omega)
 have HG := zh h.gl; have HN := zh hN
 clear h hN ht
 obtain ⟨kd, tx, nm, fr, te⟩ := t
 go_enter Tryz.func61, Tryz.ntmps61
 go_wp2_with fail
 refine (HN.out _ (HG.out.keep (Keeps.alloc [] w (tokC 0 ⟨#[]⟩ 0 0 0)) (by simp))).mono ?_
 rintro r w1 ⟨rfl, hk1⟩
 have hq1 := hk1.at (h_new w (tokC 0 ⟨#[]⟩ 0 0 0)) (by simp)
 have HQ1 := zh hq1; have HK1 := zh ((Keeps.alloc [] w (tokC 0 ⟨#[]⟩ 0 0 0)).trans hk1 (by simp))
 clear hq1 hk1
 go_wp2_with ((with_reducible show wpList _ _ _ (Oper.mk none (.store 90 _ _) _ _ _ _ :: _) _ _); refine stT 90 w1.heap.size 0 _ (h_new _ _) rfl (.agg #[.int .i64 kd, .string tx, .float .f64 nm, .int .i64 fr, .int .i64 te]) rfl (by kernel_rfl) (by simp [Value.cells]) (by simp [Value.cells, Value.oneCell']) ?_)
 intro w2 hs2
 have x0 := cell_of_heap hs2.row 0
 have x1 := cell_of_heap hs2.row 1
 have x2 := cell_of_heap hs2.row 2
 have x3 := cell_of_heap hs2.row 3
 have x4 := cell_of_heap hs2.row 4
 simp at x0 x1 x2 x3 x4
 have hsz1 := HK1.out.size
 have HQ2 := zh (hs2.at (h_alloc (o := tokC 0 ⟨#[]⟩ 0 0 0) HQ1.out) (by have := h_lt HQ1.out; omega))
 have HK2 := zh ((HK1.out.trans (Keeps.alloc [] w1 (tokC 0 ⟨#[]⟩ 0 0 0)) (by simp)).trans hs2.keeps (by simp; exact hsz1))
 clear hs2
 go_wp2_with ((with_reducible show wpList _ _ _ (Oper.mk none (.store 90 _ _) _ _ _ _ :: _) _ _); refine stT 90 w.heap.size 0 _ HQ2.out rfl (.agg #[.int .i64 kd, .string tx, .float .f64 nm, .int .i64 fr, .int .i64 te]) rfl (by kernel_rfl) (by simp [Value.cells]) (by simp [Value.cells, Value.oneCell']) ?_)
 intro w3 hs3
 have y0 := cell_of_heap hs3.row 0
 have y1 := cell_of_heap hs3.row 1
 have y2 := cell_of_heap hs3.row 2
 have y3 := cell_of_heap hs3.row 3
 have y4 := cell_of_heap hs3.row 4
 simp at y0 y1 y2 y3 y4
 have HK3 := zh (HK2.out.trans hs3.keeps (by simp))
 clear hs3 x0 x1 x2 x3 x4
 go_wp2_with fail
 exact bodyPost_ret (v := .tuple #[.agg #[.int .i64 kd, .string tx, .float .f64 nm, .int .i64 fr, .int .i64 te], .bool true]) (by simp [results, Tryz.results61, go_sem, y0, y1, y2, y3, y4]) rfl ⟨rfl, HK3.out⟩
end Go.Proofs.YtkfillfkbhbbjaaGreatDoor
namespace Go.Proofs.YtkfillfkbhbbjaaGreatDoor
open Go.RowKit

/-- Is it that sign, or word? -/
def isT (t : Tok) (x : ByteArray) : Bool := (t.kind == 9 || t.kind == 8) && same t.text x

set_option maxRecDepth 100000 in
set_option maxHeartbeats 2000000 in
theorem is_any {s : ByteArray} {p : Nat} {st : PSt} {w : World} (h : PP s p st w) {t : Tok} (ht : nextF s st.pos false = some t) (x : ByteArray) :
  Calls Tryz.prog 64 #[.pointer (some ⟨p, 0, none⟩), .string x] w fun r w' => r = .returned (.bool (isT t x)) ∧ Keeps [] w w' := by
 have c1 := cell_of_heap h.row 1
 simp at c1
 have hlt := h_lt h.row
 have H := zh h; have HT := zh ht
 clear h ht
 obtain ⟨kd, tx, nm, fr, te⟩ := t
 have hsq := same_eq tx x
 by_cases h9 : kd = 9
 ·have hv : isT ⟨kd, tx, nm, fr, te⟩ x = same tx x := by simp [isT, h9]
  rw [hv]; clear hv
  subst h9
  go_enter Tryz.func64, Tryz.ntmps64
  go_wp2_with fail
  refine (ok_any H.out).mono ?_
  rintro r w' ⟨rfl, hw'⟩
  rw [hw']
  clear hw'
  go_wp2_with fail
  refine (peek_any H.out HT.out H.out.le).mono ?_
  rintro r w1 ⟨rfl, hk1⟩
  have HK1 := zh hk1
  clear hk1
  go_wp2_with ((with_reducible show wpList _ _ _ (Oper.mk none (.store 90 _ _) _ _ _ _ :: _) _ _); refine stT 90 w1.heap.size 0 _ (h_new _ _) rfl (.agg #[.int .i64 9, .string tx, .float .f64 nm, .int .i64 fr, .int .i64 te]) rfl (by kernel_rfl) (by simp [Value.cells]) (by simp [Value.cells, Value.oneCell']) ?_)
  intro w2 hs2
  have x0 := cell_of_heap hs2.row 0
  have x1 := cell_of_heap hs2.row 1
  have x2 := cell_of_heap hs2.row 2
  have x3 := cell_of_heap hs2.row 3
  have x4 := cell_of_heap hs2.row 4
  simp at x0 x1 x2 x3 x4
  have hsz2 := HK1.out.size
  have HTR2 := zh hs2.row
  have hst2 : Keeps [] w1 w2 := (Keeps.alloc [] w1 (tokC 0 ⟨#[]⟩ 0 0 0)).trans hs2.keeps (by simp)
  have HST2 := zh hst2
  have HK2 := zh (HK1.out.trans hst2 (by simp))
  clear hs2 hst2

  go_wp2_with fail
  go_ret
  exact ⟨rfl, HK2.out⟩
 ·have n9 : (kd == 9) = false := beq_false_of_ne h9
  by_cases h8 : kd = 8
  ·have hv : isT ⟨kd, tx, nm, fr, te⟩ x = same tx x := by simp [isT, h8]
   rw [hv]; clear hv
   subst h8
   clear n9 h9
   go_enter Tryz.func64, Tryz.ntmps64
   go_wp2_with fail
   refine (ok_any H.out).mono ?_
   rintro r w' ⟨rfl, hw'⟩
   rw [hw']
   clear hw'
   go_wp2_with fail
   refine (peek_any H.out HT.out H.out.le).mono ?_
   rintro r w1 ⟨rfl, hk1⟩
   have HK1 := zh hk1
   clear hk1
   go_wp2_with ((with_reducible show wpList _ _ _ (Oper.mk none (.store 90 _ _) _ _ _ _ :: _) _ _); refine stT 90 w1.heap.size 0 _ (h_new _ _) rfl (.agg #[.int .i64 8, .string tx, .float .f64 nm, .int .i64 fr, .int .i64 te]) rfl (by kernel_rfl) (by simp [Value.cells]) (by simp [Value.cells, Value.oneCell']) ?_)
   intro w2 hs2
   have x0 := cell_of_heap hs2.row 0
   have x1 := cell_of_heap hs2.row 1
   have x2 := cell_of_heap hs2.row 2
   have x3 := cell_of_heap hs2.row 3
   have x4 := cell_of_heap hs2.row 4
   simp at x0 x1 x2 x3 x4
   have hsz2 := HK1.out.size
   have HTR2 := zh hs2.row
   have hst2 : Keeps [] w1 w2 := (Keeps.alloc [] w1 (tokC 0 ⟨#[]⟩ 0 0 0)).trans hs2.keeps (by simp)
   have HST2 := zh hst2
   have HK2 := zh (HK1.out.trans hst2 (by simp))
   clear hs2 hst2

   go_wp2_with fail
   go_ret
   exact ⟨rfl, HK2.out⟩
  ·have n8 : (kd == 8) = false := beq_false_of_ne h8
   have hv : isT ⟨kd, tx, nm, fr, te⟩ x = false := by simp [isT, h8, h9]
   rw [hv]; clear hv
   clear h8 h9
   go_enter Tryz.func64, Tryz.ntmps64
   go_wp2_with fail
   refine (ok_any H.out).mono ?_
   rintro r w' ⟨rfl, hw'⟩
   rw [hw']
   clear hw'
   go_wp2_with fail
   refine (peek_any H.out HT.out H.out.le).mono ?_
   rintro r w1 ⟨rfl, hk1⟩
   have HK1 := zh hk1
   clear hk1
   go_wp2_with ((with_reducible show wpList _ _ _ (Oper.mk none (.store 90 _ _) _ _ _ _ :: _) _ _); refine stT 90 w1.heap.size 0 _ (h_new _ _) rfl (.agg #[.int .i64 kd, .string tx, .float .f64 nm, .int .i64 fr, .int .i64 te]) rfl (by kernel_rfl) (by simp [Value.cells]) (by simp [Value.cells, Value.oneCell']) ?_)
   intro w2 hs2
   have x0 := cell_of_heap hs2.row 0
   have x1 := cell_of_heap hs2.row 1
   have x2 := cell_of_heap hs2.row 2
   have x3 := cell_of_heap hs2.row 3
   have x4 := cell_of_heap hs2.row 4
   simp at x0 x1 x2 x3 x4
   have hsz2 := HK1.out.size
   have HTR2 := zh hs2.row
   have hst2 : Keeps [] w1 w2 := (Keeps.alloc [] w1 (tokC 0 ⟨#[]⟩ 0 0 0)).trans hs2.keeps (by simp)
   have HST2 := zh hst2
   have HK2 := zh (HK1.out.trans hst2 (by simp))
   clear hs2 hst2

   go_wp2_with fail
   go_ret
   exact ⟨rfl, HK2.out⟩

set_option maxRecDepth 100000 in
set_option maxHeartbeats 2000000 in
theorem place_tok {s : ByteArray} {p : Nat} {st : PSt} {w : World} (h : PP s p st w) (t : Tok) (hf : t.fr ≤ s.size) :
  Calls Tryz.prog 126 #[.pointer (some ⟨p, 0, none⟩), tokV t] w fun r w' => r = .returned (.complex .f64 (placeOf s t.fr).1 (placeOf s t.fr).2) ∧ Keeps [] w w' := by
 have c0 := cell_of_heap h.row 0
 simp at c0
 have hlt := h_lt h.row
 have hpl := fun W => place_any hf (by have := h.size; omega) W
 have HPL := zh hpl
 clear h hpl
 obtain ⟨kd, tx, nm, fr, te⟩ := t
 go_enter Tryz.func126, Tryz.ntmps126
 go_upto_region 1 with fail
 go_quiet ((go_at_call 102; refine Calls.quiet_of_same (HPL.out _)))
 go_wp2_with fail
 go_ret
 exact ⟨rfl, (Keeps.alloc [] w _).trans (Keeps.drewN [] _ nq) (by simp)⟩

set_option maxRecDepth 100000 in
set_option maxHeartbeats 2000000 in
theorem take_no {s : ByteArray} {p : Nat} {st : PSt} {w : World} (h : PP s p st w) {t : Tok} (ht : nextF s st.pos false = some t) {x : ByteArray} (hx : isT t x = false) :
  Calls Tryz.prog 104 #[.pointer (some ⟨p, 0, none⟩), .string x] w fun r w' => r = .returned (.bool false) ∧ Keeps [] w w' := by
 have hi := is_any h ht x
 rw [hx] at hi
 have HI := zh hi
 clear hi hx ht h
 go_enter Tryz.func104, Tryz.ntmps104
 go_wp2_with fail
 refine HI.out.mono ?_
 rintro r w' ⟨rfl, hk⟩
 go_wp2_with fail
 go_ret
 exact ⟨rfl, hk⟩
end Go.Proofs.YtkfillfkbhbbjaaGreatDoor
namespace Go.Proofs.YtkfillfkbhbbjaaGreatDoor
open Go.RowKit

set_option maxRecDepth 100000 in
set_option maxHeartbeats 2000000 in
theorem take_40 {s : ByteArray} {p : Nat} {st : PSt} {w : World} (h : PP s p st w) {t : Tok} (ht : nextF s st.pos false = some t) (ho : st.opn < 40) (hx : isT t ⟨#[40]⟩ = true) :
  Calls Tryz.prog 104 #[.pointer (some ⟨p, 0, none⟩), .string ⟨#[40]⟩] w fun r w' => r = .returned (.bool true) ∧ PP s p ⟨t.to, st.opn + 1, st.ng⟩ w' ∧ Keeps [p] w w' := by
 have hi := is_any h ht ⟨#[40]⟩
 rw [hx] at hi
 obtain ⟨le1, le2, le3⟩ := nextF_le ht h.le
 have hob := h.ob
 have H := zh h; have HI := zh hi; have HT := zh ht
 clear hi hx ht h
 obtain ⟨kd, tx, nm, fr, te⟩ := t
 obtain ⟨pos, opn, ng⟩ := st
 simp only at le1 le2 le3 hob ho
 obtain ⟨ob1, ob2⟩ := hob
 go_enter Tryz.func104, Tryz.ntmps104
 go_wp2_with fail
 refine HI.out.mono ?_
 rintro r w0 ⟨rfl, hk0⟩
 have HP0 := zh (H.out.keep hk0); have HK0 := zh hk0
 have c1 := cell_of_heap HP0.out.row 1
 have hlt := h_lt HP0.out.row
 simp at c1
 clear hk0
 go_wp2_with fail
 refine (peek_any HP0.out HT.out H.out.le).mono ?_
 rintro r w1 ⟨rfl, hk1⟩
 have HP1 := zh (HP0.out.keep hk1)
 have HK1 := zh (HK0.out.trans hk1 (by simp))
 clear hk1 c1 hlt
 go_wp2_with ((with_reducible show wpList _ _ _ (Oper.mk none (.store 90 _ _) _ _ _ _ :: _) _ _); refine stT 90 w1.heap.size 0 _ (h_new _ _) rfl (.agg #[.int .i64 kd, .string tx, .float .f64 nm, .int .i64 fr, .int .i64 te]) rfl (by kernel_rfl) (by simp [Value.cells]) (by simp [Value.cells, Value.oneCell']) ?_)
 intro w2 hs2
 have x0 := cell_of_heap hs2.row 0
 have x1 := cell_of_heap hs2.row 1
 have x2 := cell_of_heap hs2.row 2
 have x3 := cell_of_heap hs2.row 3
 have x4 := cell_of_heap hs2.row 4
 simp at x0 x1 x2 x3 x4
 have hsz2 := HK1.out.size
 have HTR2 := zh hs2.row
 have hst2 : Keeps [] w1 w2 := (Keeps.alloc [] w1 (tokC 0 ⟨#[]⟩ 0 0 0)).trans hs2.keeps (by simp)
 have HST2 := zh hst2
 have HK2 := zh (HK1.out.trans hst2 (by simp))
 clear hs2 hst2

 have HP2 := zh (HP1.out.keep HST2.out)
 have c0 := cell_of_heap HP2.out.row 0
 have f0 := frozen_of_heap HP2.out.row 0
 have c1 := cell_of_heap HP2.out.row 1
 have f1 := frozen_of_heap HP2.out.row 1
 have c2 := cell_of_heap HP2.out.row 2
 have f2 := frozen_of_heap HP2.out.row 2
 have c3 := cell_of_heap HP2.out.row 3
 have f3 := frozen_of_heap HP2.out.row 3
 have c4 := cell_of_heap HP2.out.row 4
 have f4 := frozen_of_heap HP2.out.row 4
 have c5 := cell_of_heap HP2.out.row 5
 have f5 := frozen_of_heap HP2.out.row 5
 simp at c0 c1 c2 c3 c4 c5

 have hlt := h_lt HP2.out.row
 go_wp2_with fail
 go_ret
 have hrow : ((w2.setCell ⟨p, 1, none⟩ (.int .i64 te)).setCell ⟨p, 2, none⟩ (.int .i64 (opn + 1))).heap[p]? = some (parC s ⟨te, opn + 1, ng⟩) := by
  have := (h_set_eq (i := 2) (u := .int .i64 (opn + 1)) (h_set_eq (i := 1) (u := .int .i64 te) HP2.out.row))
  simpa using this
 have hkp : Keeps [p] w2 ((w2.setCell ⟨p, 1, none⟩ (.int .i64 te)).setCell ⟨p, 2, none⟩ (.int .i64 (opn + 1))) := (Keeps.trans (Keeps.trans (Keeps.refl [p] w2) (Keeps.setCell [p] _ _ _ (by simp)) (by simp)) (Keeps.setCell [p] _ _ _ (by simp)) (by simp))
 exact ⟨rfl, ⟨HP2.out.gl.keep hkp (by simp; exact HP2.out.p), hrow, HP2.out.p, HP2.out.size, le2, by simp only; omega⟩, (HK2.out.weaken (fp' := [p]) (by simp)).trans hkp (by simp)⟩

set_option maxRecDepth 100000 in
set_option maxHeartbeats 2000000 in
theorem take_91 {s : ByteArray} {p : Nat} {st : PSt} {w : World} (h : PP s p st w) {t : Tok} (ht : nextF s st.pos false = some t) (ho : st.opn < 40) (hx : isT t ⟨#[91]⟩ = true) :
  Calls Tryz.prog 104 #[.pointer (some ⟨p, 0, none⟩), .string ⟨#[91]⟩] w fun r w' => r = .returned (.bool true) ∧ PP s p ⟨t.to, st.opn + 1, st.ng⟩ w' ∧ Keeps [p] w w' := by
 have hi := is_any h ht ⟨#[91]⟩
 rw [hx] at hi
 obtain ⟨le1, le2, le3⟩ := nextF_le ht h.le
 have hob := h.ob
 have H := zh h; have HI := zh hi; have HT := zh ht
 clear hi hx ht h
 obtain ⟨kd, tx, nm, fr, te⟩ := t
 obtain ⟨pos, opn, ng⟩ := st
 simp only at le1 le2 le3 hob ho
 obtain ⟨ob1, ob2⟩ := hob
 go_enter Tryz.func104, Tryz.ntmps104
 go_wp2_with fail
 refine HI.out.mono ?_
 rintro r w0 ⟨rfl, hk0⟩
 have HP0 := zh (H.out.keep hk0); have HK0 := zh hk0
 have c1 := cell_of_heap HP0.out.row 1
 have hlt := h_lt HP0.out.row
 simp at c1
 clear hk0
 go_wp2_with fail
 refine (peek_any HP0.out HT.out H.out.le).mono ?_
 rintro r w1 ⟨rfl, hk1⟩
 have HP1 := zh (HP0.out.keep hk1)
 have HK1 := zh (HK0.out.trans hk1 (by simp))
 clear hk1 c1 hlt
 go_wp2_with ((with_reducible show wpList _ _ _ (Oper.mk none (.store 90 _ _) _ _ _ _ :: _) _ _); refine stT 90 w1.heap.size 0 _ (h_new _ _) rfl (.agg #[.int .i64 kd, .string tx, .float .f64 nm, .int .i64 fr, .int .i64 te]) rfl (by kernel_rfl) (by simp [Value.cells]) (by simp [Value.cells, Value.oneCell']) ?_)
 intro w2 hs2
 have x0 := cell_of_heap hs2.row 0
 have x1 := cell_of_heap hs2.row 1
 have x2 := cell_of_heap hs2.row 2
 have x3 := cell_of_heap hs2.row 3
 have x4 := cell_of_heap hs2.row 4
 simp at x0 x1 x2 x3 x4
 have hsz2 := HK1.out.size
 have HTR2 := zh hs2.row
 have hst2 : Keeps [] w1 w2 := (Keeps.alloc [] w1 (tokC 0 ⟨#[]⟩ 0 0 0)).trans hs2.keeps (by simp)
 have HST2 := zh hst2
 have HK2 := zh (HK1.out.trans hst2 (by simp))
 clear hs2 hst2

 have HP2 := zh (HP1.out.keep HST2.out)
 have c0 := cell_of_heap HP2.out.row 0
 have f0 := frozen_of_heap HP2.out.row 0
 have c1 := cell_of_heap HP2.out.row 1
 have f1 := frozen_of_heap HP2.out.row 1
 have c2 := cell_of_heap HP2.out.row 2
 have f2 := frozen_of_heap HP2.out.row 2
 have c3 := cell_of_heap HP2.out.row 3
 have f3 := frozen_of_heap HP2.out.row 3
 have c4 := cell_of_heap HP2.out.row 4
 have f4 := frozen_of_heap HP2.out.row 4
 have c5 := cell_of_heap HP2.out.row 5
 have f5 := frozen_of_heap HP2.out.row 5
 simp at c0 c1 c2 c3 c4 c5

 have hlt := h_lt HP2.out.row
 go_wp2_with fail
 go_ret
 have hrow : ((w2.setCell ⟨p, 1, none⟩ (.int .i64 te)).setCell ⟨p, 2, none⟩ (.int .i64 (opn + 1))).heap[p]? = some (parC s ⟨te, opn + 1, ng⟩) := by
  have := (h_set_eq (i := 2) (u := .int .i64 (opn + 1)) (h_set_eq (i := 1) (u := .int .i64 te) HP2.out.row))
  simpa using this
 have hkp : Keeps [p] w2 ((w2.setCell ⟨p, 1, none⟩ (.int .i64 te)).setCell ⟨p, 2, none⟩ (.int .i64 (opn + 1))) := (Keeps.trans (Keeps.trans (Keeps.refl [p] w2) (Keeps.setCell [p] _ _ _ (by simp)) (by simp)) (Keeps.setCell [p] _ _ _ (by simp)) (by simp))
 exact ⟨rfl, ⟨HP2.out.gl.keep hkp (by simp; exact HP2.out.p), hrow, HP2.out.p, HP2.out.size, le2, by simp only; omega⟩, (HK2.out.weaken (fp' := [p]) (by simp)).trans hkp (by simp)⟩

set_option maxRecDepth 100000 in
set_option maxHeartbeats 2000000 in
theorem take_123 {s : ByteArray} {p : Nat} {st : PSt} {w : World} (h : PP s p st w) {t : Tok} (ht : nextF s st.pos false = some t) (ho : st.opn < 40) (hx : isT t ⟨#[123]⟩ = true) :
  Calls Tryz.prog 104 #[.pointer (some ⟨p, 0, none⟩), .string ⟨#[123]⟩] w fun r w' => r = .returned (.bool true) ∧ PP s p ⟨t.to, st.opn + 1, st.ng⟩ w' ∧ Keeps [p] w w' := by
 have hi := is_any h ht ⟨#[123]⟩
 rw [hx] at hi
 obtain ⟨le1, le2, le3⟩ := nextF_le ht h.le
 have hob := h.ob
 have H := zh h; have HI := zh hi; have HT := zh ht
 clear hi hx ht h
 obtain ⟨kd, tx, nm, fr, te⟩ := t
 obtain ⟨pos, opn, ng⟩ := st
 simp only at le1 le2 le3 hob ho
 obtain ⟨ob1, ob2⟩ := hob
 go_enter Tryz.func104, Tryz.ntmps104
 go_wp2_with fail
 refine HI.out.mono ?_
 rintro r w0 ⟨rfl, hk0⟩
 have HP0 := zh (H.out.keep hk0); have HK0 := zh hk0
 have c1 := cell_of_heap HP0.out.row 1
 have hlt := h_lt HP0.out.row
 simp at c1
 clear hk0
 go_wp2_with fail
 refine (peek_any HP0.out HT.out H.out.le).mono ?_
 rintro r w1 ⟨rfl, hk1⟩
 have HP1 := zh (HP0.out.keep hk1)
 have HK1 := zh (HK0.out.trans hk1 (by simp))
 clear hk1 c1 hlt
 go_wp2_with ((with_reducible show wpList _ _ _ (Oper.mk none (.store 90 _ _) _ _ _ _ :: _) _ _); refine stT 90 w1.heap.size 0 _ (h_new _ _) rfl (.agg #[.int .i64 kd, .string tx, .float .f64 nm, .int .i64 fr, .int .i64 te]) rfl (by kernel_rfl) (by simp [Value.cells]) (by simp [Value.cells, Value.oneCell']) ?_)
 intro w2 hs2
 have x0 := cell_of_heap hs2.row 0
 have x1 := cell_of_heap hs2.row 1
 have x2 := cell_of_heap hs2.row 2
 have x3 := cell_of_heap hs2.row 3
 have x4 := cell_of_heap hs2.row 4
 simp at x0 x1 x2 x3 x4
 have hsz2 := HK1.out.size
 have HTR2 := zh hs2.row
 have hst2 : Keeps [] w1 w2 := (Keeps.alloc [] w1 (tokC 0 ⟨#[]⟩ 0 0 0)).trans hs2.keeps (by simp)
 have HST2 := zh hst2
 have HK2 := zh (HK1.out.trans hst2 (by simp))
 clear hs2 hst2

 have HP2 := zh (HP1.out.keep HST2.out)
 have c0 := cell_of_heap HP2.out.row 0
 have f0 := frozen_of_heap HP2.out.row 0
 have c1 := cell_of_heap HP2.out.row 1
 have f1 := frozen_of_heap HP2.out.row 1
 have c2 := cell_of_heap HP2.out.row 2
 have f2 := frozen_of_heap HP2.out.row 2
 have c3 := cell_of_heap HP2.out.row 3
 have f3 := frozen_of_heap HP2.out.row 3
 have c4 := cell_of_heap HP2.out.row 4
 have f4 := frozen_of_heap HP2.out.row 4
 have c5 := cell_of_heap HP2.out.row 5
 have f5 := frozen_of_heap HP2.out.row 5
 simp at c0 c1 c2 c3 c4 c5

 have hlt := h_lt HP2.out.row
 go_wp2_with fail
 go_ret
 have hrow : ((w2.setCell ⟨p, 1, none⟩ (.int .i64 te)).setCell ⟨p, 2, none⟩ (.int .i64 (opn + 1))).heap[p]? = some (parC s ⟨te, opn + 1, ng⟩) := by
  have := (h_set_eq (i := 2) (u := .int .i64 (opn + 1)) (h_set_eq (i := 1) (u := .int .i64 te) HP2.out.row))
  simpa using this
 have hkp : Keeps [p] w2 ((w2.setCell ⟨p, 1, none⟩ (.int .i64 te)).setCell ⟨p, 2, none⟩ (.int .i64 (opn + 1))) := (Keeps.trans (Keeps.trans (Keeps.refl [p] w2) (Keeps.setCell [p] _ _ _ (by simp)) (by simp)) (Keeps.setCell [p] _ _ _ (by simp)) (by simp))
 exact ⟨rfl, ⟨HP2.out.gl.keep hkp (by simp; exact HP2.out.p), hrow, HP2.out.p, HP2.out.size, le2, by simp only; omega⟩, (HK2.out.weaken (fp' := [p]) (by simp)).trans hkp (by simp)⟩

set_option maxRecDepth 100000 in
set_option maxHeartbeats 2000000 in
theorem take_41 {s : ByteArray} {p : Nat} {st : PSt} {w : World} (h : PP s p st w) {t : Tok} (ht : nextF s st.pos false = some t) (ho : -100 < st.opn) (hx : isT t ⟨#[41]⟩ = true) :
  Calls Tryz.prog 104 #[.pointer (some ⟨p, 0, none⟩), .string ⟨#[41]⟩] w fun r w' => r = .returned (.bool true) ∧ PP s p ⟨t.to, st.opn - 1, st.ng⟩ w' ∧ Keeps [p] w w' := by
 have hi := is_any h ht ⟨#[41]⟩
 rw [hx] at hi
 obtain ⟨le1, le2, le3⟩ := nextF_le ht h.le
 have hob := h.ob
 have H := zh h; have HI := zh hi; have HT := zh ht
 clear hi hx ht h
 obtain ⟨kd, tx, nm, fr, te⟩ := t
 obtain ⟨pos, opn, ng⟩ := st
 simp only at le1 le2 le3 hob ho
 obtain ⟨ob1, ob2⟩ := hob
 go_enter Tryz.func104, Tryz.ntmps104
 go_wp2_with fail
 refine HI.out.mono ?_
 rintro r w0 ⟨rfl, hk0⟩
 have HP0 := zh (H.out.keep hk0); have HK0 := zh hk0
 have c1 := cell_of_heap HP0.out.row 1
 have hlt := h_lt HP0.out.row
 simp at c1
 clear hk0
 go_wp2_with fail
 refine (peek_any HP0.out HT.out H.out.le).mono ?_
 rintro r w1 ⟨rfl, hk1⟩
 have HP1 := zh (HP0.out.keep hk1)
 have HK1 := zh (HK0.out.trans hk1 (by simp))
 clear hk1 c1 hlt
 go_wp2_with ((with_reducible show wpList _ _ _ (Oper.mk none (.store 90 _ _) _ _ _ _ :: _) _ _); refine stT 90 w1.heap.size 0 _ (h_new _ _) rfl (.agg #[.int .i64 kd, .string tx, .float .f64 nm, .int .i64 fr, .int .i64 te]) rfl (by kernel_rfl) (by simp [Value.cells]) (by simp [Value.cells, Value.oneCell']) ?_)
 intro w2 hs2
 have x0 := cell_of_heap hs2.row 0
 have x1 := cell_of_heap hs2.row 1
 have x2 := cell_of_heap hs2.row 2
 have x3 := cell_of_heap hs2.row 3
 have x4 := cell_of_heap hs2.row 4
 simp at x0 x1 x2 x3 x4
 have hsz2 := HK1.out.size
 have HTR2 := zh hs2.row
 have hst2 : Keeps [] w1 w2 := (Keeps.alloc [] w1 (tokC 0 ⟨#[]⟩ 0 0 0)).trans hs2.keeps (by simp)
 have HST2 := zh hst2
 have HK2 := zh (HK1.out.trans hst2 (by simp))
 clear hs2 hst2

 have HP2 := zh (HP1.out.keep HST2.out)
 have c0 := cell_of_heap HP2.out.row 0
 have f0 := frozen_of_heap HP2.out.row 0
 have c1 := cell_of_heap HP2.out.row 1
 have f1 := frozen_of_heap HP2.out.row 1
 have c2 := cell_of_heap HP2.out.row 2
 have f2 := frozen_of_heap HP2.out.row 2
 have c3 := cell_of_heap HP2.out.row 3
 have f3 := frozen_of_heap HP2.out.row 3
 have c4 := cell_of_heap HP2.out.row 4
 have f4 := frozen_of_heap HP2.out.row 4
 have c5 := cell_of_heap HP2.out.row 5
 have f5 := frozen_of_heap HP2.out.row 5
 simp at c0 c1 c2 c3 c4 c5

 have hlt := h_lt HP2.out.row
 go_wp2_with fail
 go_ret
 have hrow : ((w2.setCell ⟨p, 1, none⟩ (.int .i64 te)).setCell ⟨p, 2, none⟩ (.int .i64 (opn - 1))).heap[p]? = some (parC s ⟨te, opn - 1, ng⟩) := by
  have := (h_set_eq (i := 2) (u := .int .i64 (opn - 1)) (h_set_eq (i := 1) (u := .int .i64 te) HP2.out.row))
  simpa using this
 have hkp : Keeps [p] w2 ((w2.setCell ⟨p, 1, none⟩ (.int .i64 te)).setCell ⟨p, 2, none⟩ (.int .i64 (opn - 1))) := (Keeps.trans (Keeps.trans (Keeps.refl [p] w2) (Keeps.setCell [p] _ _ _ (by simp)) (by simp)) (Keeps.setCell [p] _ _ _ (by simp)) (by simp))
 exact ⟨rfl, ⟨HP2.out.gl.keep hkp (by simp; exact HP2.out.p), hrow, HP2.out.p, HP2.out.size, le2, by simp only; omega⟩, (HK2.out.weaken (fp' := [p]) (by simp)).trans hkp (by simp)⟩

set_option maxRecDepth 100000 in
set_option maxHeartbeats 2000000 in
theorem take_93 {s : ByteArray} {p : Nat} {st : PSt} {w : World} (h : PP s p st w) {t : Tok} (ht : nextF s st.pos false = some t) (ho : -100 < st.opn) (hx : isT t ⟨#[93]⟩ = true) :
  Calls Tryz.prog 104 #[.pointer (some ⟨p, 0, none⟩), .string ⟨#[93]⟩] w fun r w' => r = .returned (.bool true) ∧ PP s p ⟨t.to, st.opn - 1, st.ng⟩ w' ∧ Keeps [p] w w' := by
 have hi := is_any h ht ⟨#[93]⟩
 rw [hx] at hi
 obtain ⟨le1, le2, le3⟩ := nextF_le ht h.le
 have hob := h.ob
 have H := zh h; have HI := zh hi; have HT := zh ht
 clear hi hx ht h
 obtain ⟨kd, tx, nm, fr, te⟩ := t
 obtain ⟨pos, opn, ng⟩ := st
 simp only at le1 le2 le3 hob ho
 obtain ⟨ob1, ob2⟩ := hob
 go_enter Tryz.func104, Tryz.ntmps104
 go_wp2_with fail
 refine HI.out.mono ?_
 rintro r w0 ⟨rfl, hk0⟩
 have HP0 := zh (H.out.keep hk0); have HK0 := zh hk0
 have c1 := cell_of_heap HP0.out.row 1
 have hlt := h_lt HP0.out.row
 simp at c1
 clear hk0
 go_wp2_with fail
 refine (peek_any HP0.out HT.out H.out.le).mono ?_
 rintro r w1 ⟨rfl, hk1⟩
 have HP1 := zh (HP0.out.keep hk1)
 have HK1 := zh (HK0.out.trans hk1 (by simp))
 clear hk1 c1 hlt
 go_wp2_with ((with_reducible show wpList _ _ _ (Oper.mk none (.store 90 _ _) _ _ _ _ :: _) _ _); refine stT 90 w1.heap.size 0 _ (h_new _ _) rfl (.agg #[.int .i64 kd, .string tx, .float .f64 nm, .int .i64 fr, .int .i64 te]) rfl (by kernel_rfl) (by simp [Value.cells]) (by simp [Value.cells, Value.oneCell']) ?_)
 intro w2 hs2
 have x0 := cell_of_heap hs2.row 0
 have x1 := cell_of_heap hs2.row 1
 have x2 := cell_of_heap hs2.row 2
 have x3 := cell_of_heap hs2.row 3
 have x4 := cell_of_heap hs2.row 4
 simp at x0 x1 x2 x3 x4
 have hsz2 := HK1.out.size
 have HTR2 := zh hs2.row
 have hst2 : Keeps [] w1 w2 := (Keeps.alloc [] w1 (tokC 0 ⟨#[]⟩ 0 0 0)).trans hs2.keeps (by simp)
 have HST2 := zh hst2
 have HK2 := zh (HK1.out.trans hst2 (by simp))
 clear hs2 hst2

 have HP2 := zh (HP1.out.keep HST2.out)
 have c0 := cell_of_heap HP2.out.row 0
 have f0 := frozen_of_heap HP2.out.row 0
 have c1 := cell_of_heap HP2.out.row 1
 have f1 := frozen_of_heap HP2.out.row 1
 have c2 := cell_of_heap HP2.out.row 2
 have f2 := frozen_of_heap HP2.out.row 2
 have c3 := cell_of_heap HP2.out.row 3
 have f3 := frozen_of_heap HP2.out.row 3
 have c4 := cell_of_heap HP2.out.row 4
 have f4 := frozen_of_heap HP2.out.row 4
 have c5 := cell_of_heap HP2.out.row 5
 have f5 := frozen_of_heap HP2.out.row 5
 simp at c0 c1 c2 c3 c4 c5

 have hlt := h_lt HP2.out.row
 go_wp2_with fail
 go_ret
 have hrow : ((w2.setCell ⟨p, 1, none⟩ (.int .i64 te)).setCell ⟨p, 2, none⟩ (.int .i64 (opn - 1))).heap[p]? = some (parC s ⟨te, opn - 1, ng⟩) := by
  have := (h_set_eq (i := 2) (u := .int .i64 (opn - 1)) (h_set_eq (i := 1) (u := .int .i64 te) HP2.out.row))
  simpa using this
 have hkp : Keeps [p] w2 ((w2.setCell ⟨p, 1, none⟩ (.int .i64 te)).setCell ⟨p, 2, none⟩ (.int .i64 (opn - 1))) := (Keeps.trans (Keeps.trans (Keeps.refl [p] w2) (Keeps.setCell [p] _ _ _ (by simp)) (by simp)) (Keeps.setCell [p] _ _ _ (by simp)) (by simp))
 exact ⟨rfl, ⟨HP2.out.gl.keep hkp (by simp; exact HP2.out.p), hrow, HP2.out.p, HP2.out.size, le2, by simp only; omega⟩, (HK2.out.weaken (fp' := [p]) (by simp)).trans hkp (by simp)⟩

set_option maxRecDepth 100000 in
set_option maxHeartbeats 2000000 in
theorem take_125 {s : ByteArray} {p : Nat} {st : PSt} {w : World} (h : PP s p st w) {t : Tok} (ht : nextF s st.pos false = some t) (ho : -100 < st.opn) (hx : isT t ⟨#[125]⟩ = true) :
  Calls Tryz.prog 104 #[.pointer (some ⟨p, 0, none⟩), .string ⟨#[125]⟩] w fun r w' => r = .returned (.bool true) ∧ PP s p ⟨t.to, st.opn - 1, st.ng⟩ w' ∧ Keeps [p] w w' := by
 have hi := is_any h ht ⟨#[125]⟩
 rw [hx] at hi
 obtain ⟨le1, le2, le3⟩ := nextF_le ht h.le
 have hob := h.ob
 have H := zh h; have HI := zh hi; have HT := zh ht
 clear hi hx ht h
 obtain ⟨kd, tx, nm, fr, te⟩ := t
 obtain ⟨pos, opn, ng⟩ := st
 simp only at le1 le2 le3 hob ho
 obtain ⟨ob1, ob2⟩ := hob
 go_enter Tryz.func104, Tryz.ntmps104
 go_wp2_with fail
 refine HI.out.mono ?_
 rintro r w0 ⟨rfl, hk0⟩
 have HP0 := zh (H.out.keep hk0); have HK0 := zh hk0
 have c1 := cell_of_heap HP0.out.row 1
 have hlt := h_lt HP0.out.row
 simp at c1
 clear hk0
 go_wp2_with fail
 refine (peek_any HP0.out HT.out H.out.le).mono ?_
 rintro r w1 ⟨rfl, hk1⟩
 have HP1 := zh (HP0.out.keep hk1)
 have HK1 := zh (HK0.out.trans hk1 (by simp))
 clear hk1 c1 hlt
 go_wp2_with ((with_reducible show wpList _ _ _ (Oper.mk none (.store 90 _ _) _ _ _ _ :: _) _ _); refine stT 90 w1.heap.size 0 _ (h_new _ _) rfl (.agg #[.int .i64 kd, .string tx, .float .f64 nm, .int .i64 fr, .int .i64 te]) rfl (by kernel_rfl) (by simp [Value.cells]) (by simp [Value.cells, Value.oneCell']) ?_)
 intro w2 hs2
 have x0 := cell_of_heap hs2.row 0
 have x1 := cell_of_heap hs2.row 1
 have x2 := cell_of_heap hs2.row 2
 have x3 := cell_of_heap hs2.row 3
 have x4 := cell_of_heap hs2.row 4
 simp at x0 x1 x2 x3 x4
 have hsz2 := HK1.out.size
 have HTR2 := zh hs2.row
 have hst2 : Keeps [] w1 w2 := (Keeps.alloc [] w1 (tokC 0 ⟨#[]⟩ 0 0 0)).trans hs2.keeps (by simp)
 have HST2 := zh hst2
 have HK2 := zh (HK1.out.trans hst2 (by simp))
 clear hs2 hst2

 have HP2 := zh (HP1.out.keep HST2.out)
 have c0 := cell_of_heap HP2.out.row 0
 have f0 := frozen_of_heap HP2.out.row 0
 have c1 := cell_of_heap HP2.out.row 1
 have f1 := frozen_of_heap HP2.out.row 1
 have c2 := cell_of_heap HP2.out.row 2
 have f2 := frozen_of_heap HP2.out.row 2
 have c3 := cell_of_heap HP2.out.row 3
 have f3 := frozen_of_heap HP2.out.row 3
 have c4 := cell_of_heap HP2.out.row 4
 have f4 := frozen_of_heap HP2.out.row 4
 have c5 := cell_of_heap HP2.out.row 5
 have f5 := frozen_of_heap HP2.out.row 5
 simp at c0 c1 c2 c3 c4 c5

 have hlt := h_lt HP2.out.row
 go_wp2_with fail
 go_ret
 have hrow : ((w2.setCell ⟨p, 1, none⟩ (.int .i64 te)).setCell ⟨p, 2, none⟩ (.int .i64 (opn - 1))).heap[p]? = some (parC s ⟨te, opn - 1, ng⟩) := by
  have := (h_set_eq (i := 2) (u := .int .i64 (opn - 1)) (h_set_eq (i := 1) (u := .int .i64 te) HP2.out.row))
  simpa using this
 have hkp : Keeps [p] w2 ((w2.setCell ⟨p, 1, none⟩ (.int .i64 te)).setCell ⟨p, 2, none⟩ (.int .i64 (opn - 1))) := (Keeps.trans (Keeps.trans (Keeps.refl [p] w2) (Keeps.setCell [p] _ _ _ (by simp)) (by simp)) (Keeps.setCell [p] _ _ _ (by simp)) (by simp))
 exact ⟨rfl, ⟨HP2.out.gl.keep hkp (by simp; exact HP2.out.p), hrow, HP2.out.p, HP2.out.size, le2, by simp only; omega⟩, (HK2.out.weaken (fp' := [p]) (by simp)).trans hkp (by simp)⟩

set_option maxRecDepth 100000 in
set_option maxHeartbeats 2000000 in
theorem take_plain {s : ByteArray} {p : Nat} {st : PSt} {w : World} (h : PP s p st w) {t : Tok} (ht : nextF s st.pos false = some t) {x : ByteArray} (x40 : (x.toList == [40]) = false) (x91 : (x.toList == [91]) = false) (x123 : (x.toList == [123]) = false) (x41 : (x.toList == [41]) = false) (x93 : (x.toList == [93]) = false) (x125 : (x.toList == [125]) = false) (hx : isT t x = true) :
  Calls Tryz.prog 104 #[.pointer (some ⟨p, 0, none⟩), .string x] w fun r w' => r = .returned (.bool true) ∧ PP s p ⟨t.to, st.opn, st.ng⟩ w' ∧ Keeps [p] w w' := by
 have hi := is_any h ht x
 rw [hx] at hi
 obtain ⟨le1, le2, le3⟩ := nextF_le ht h.le
 have hob := h.ob
 have H := zh h; have HI := zh hi; have HT := zh ht
 clear hi hx ht h
 obtain ⟨kd, tx, nm, fr, te⟩ := t
 obtain ⟨pos, opn, ng⟩ := st
 simp only at le1 le2 le3 hob
 obtain ⟨ob1, ob2⟩ := hob
 go_enter Tryz.func104, Tryz.ntmps104
 go_wp2_with fail
 refine HI.out.mono ?_
 rintro r w0 ⟨rfl, hk0⟩
 have HP0 := zh (H.out.keep hk0); have HK0 := zh hk0
 have c1 := cell_of_heap HP0.out.row 1
 have hlt := h_lt HP0.out.row
 simp at c1
 clear hk0
 go_wp2_with fail
 refine (peek_any HP0.out HT.out H.out.le).mono ?_
 rintro r w1 ⟨rfl, hk1⟩
 have HP1 := zh (HP0.out.keep hk1)
 have HK1 := zh (HK0.out.trans hk1 (by simp))
 clear hk1 c1 hlt
 go_wp2_with ((with_reducible show wpList _ _ _ (Oper.mk none (.store 90 _ _) _ _ _ _ :: _) _ _); refine stT 90 w1.heap.size 0 _ (h_new _ _) rfl (.agg #[.int .i64 kd, .string tx, .float .f64 nm, .int .i64 fr, .int .i64 te]) rfl (by kernel_rfl) (by simp [Value.cells]) (by simp [Value.cells, Value.oneCell']) ?_)
 intro w2 hs2
 have x0 := cell_of_heap hs2.row 0
 have x1 := cell_of_heap hs2.row 1
 have x2 := cell_of_heap hs2.row 2
 have x3 := cell_of_heap hs2.row 3
 have x4 := cell_of_heap hs2.row 4
 simp at x0 x1 x2 x3 x4
 have hsz2 := HK1.out.size
 have HTR2 := zh hs2.row
 have hst2 : Keeps [] w1 w2 := (Keeps.alloc [] w1 (tokC 0 ⟨#[]⟩ 0 0 0)).trans hs2.keeps (by simp)
 have HST2 := zh hst2
 have HK2 := zh (HK1.out.trans hst2 (by simp))
 clear hs2 hst2

 have HP2 := zh (HP1.out.keep HST2.out)
 have c0 := cell_of_heap HP2.out.row 0
 have f0 := frozen_of_heap HP2.out.row 0
 have c1 := cell_of_heap HP2.out.row 1
 have f1 := frozen_of_heap HP2.out.row 1
 have c2 := cell_of_heap HP2.out.row 2
 have f2 := frozen_of_heap HP2.out.row 2
 have c3 := cell_of_heap HP2.out.row 3
 have f3 := frozen_of_heap HP2.out.row 3
 have c4 := cell_of_heap HP2.out.row 4
 have f4 := frozen_of_heap HP2.out.row 4
 have c5 := cell_of_heap HP2.out.row 5
 have f5 := frozen_of_heap HP2.out.row 5
 simp at c0 c1 c2 c3 c4 c5

 have hlt := h_lt HP2.out.row
 go_wp2_with fail
 go_ret
 have hrow : (w2.setCell ⟨p, 1, none⟩ (.int .i64 te)).heap[p]? = some (parC s ⟨te, opn, ng⟩) := by
  have := (h_set_eq (i := 1) (u := .int .i64 te) HP2.out.row)
  simpa using this
 have hkp : Keeps [p] w2 (w2.setCell ⟨p, 1, none⟩ (.int .i64 te)) := (Keeps.trans (Keeps.refl [p] w2) (Keeps.setCell [p] _ _ _ (by simp)) (by simp))
 exact ⟨rfl, ⟨HP2.out.gl.keep hkp (by simp; exact HP2.out.p), hrow, HP2.out.p, HP2.out.size, le2, by simp only; omega⟩, (HK2.out.weaken (fp' := [p]) (by simp)).trans hkp (by simp)⟩
end Go.Proofs.YtkfillfkbhbbjaaGreatDoor
namespace Go.Proofs.YtkfillfkbhbbjaaGreatDoor
open Go.RowKit

def opnF (x : ByteArray) (o : Int) : Option Int :=
 if same x (bs [40]) || same x (bs [91]) || same x (bs [123]) then (if o < 40 then some (o + 1) else none)
 else if same x (bs [41]) || same x (bs [93]) || same x (bs [125]) then (if -100 < o then some (o - 1) else none) else some o
def takeF (s : ByteArray) (st : PSt) (x : ByteArray) : Option (Bool × PSt) := do
 let t ← nextF s st.pos false
 if isT t x then do
  let o ← opnF x st.opn
  some (true, ⟨t.to, o, st.ng⟩)
 else some (false, st)

theorem take_any {s : ByteArray} {p : Nat} {st st' : PSt} {w : World} (h : PP s p st w) {x : ByteArray} {b : Bool} (hx : takeF s st x = some (b, st')) :
  Calls Tryz.prog 104 #[.pointer (some ⟨p, 0, none⟩), .string x] w fun r w' => r = .returned (.bool b) ∧ PP s p st' w' ∧ Keeps [p] w w' := by
 unfold takeF at hx
 cases ht : nextF s st.pos false with
 | none => rw [ht] at hx; simp at hx
 | some t =>
  rw [ht] at hx
  simp only [Option.bind_eq_bind, Option.bind_some] at hx
  cases hi : isT t x
  ·rw [hi] at hx
   simp only [Bool.false_eq_true, if_false, Option.some.injEq, Prod.mk.injEq] at hx
   obtain ⟨rfl, rfl⟩ := hx
   exact (take_no h ht hi).mono fun r w' ⟨hr, hk⟩ => ⟨hr, h.keep hk, hk.weaken (by simp)⟩
  ·rw [hi] at hx
   simp only [if_true] at hx
   cases ho : opnF x st.opn with
   | none => rw [ho] at hx; simp at hx
   | some o =>
    rw [ho] at hx
    simp only [Option.bind_some, Option.some.injEq, Prod.mk.injEq] at hx
    obtain ⟨rfl, rfl⟩ := hx
    unfold opnF at ho
    have fin : ∀ {l : List UInt8}, same x (bs l) = true → x = ⟨l.toArray⟩ := fun h => same_iff.1 h
    by_cases e40 : same x (bs [40]) = true
    ·rw [e40] at ho
     have hxl := fin e40
     subst hxl
     simp at ho
     obtain ⟨ho1, rfl⟩ := ho
     exact take_40 h ht ho1 hi
    by_cases e91 : same x (bs [91]) = true
    ·rw [e91] at ho
     have hxl := fin e91
     subst hxl
     simp [e40] at ho
     obtain ⟨ho1, rfl⟩ := ho
     exact take_91 h ht ho1 hi
    by_cases e123 : same x (bs [123]) = true
    ·rw [e123] at ho
     have hxl := fin e123
     subst hxl
     simp [e40, e91] at ho
     obtain ⟨ho1, rfl⟩ := ho
     exact take_123 h ht ho1 hi
    by_cases e41 : same x (bs [41]) = true
    ·rw [e41] at ho
     have hxl := fin e41
     subst hxl
     simp [e40, e91, e123] at ho
     obtain ⟨ho1, rfl⟩ := ho
     exact take_41 h ht ho1 hi
    by_cases e93 : same x (bs [93]) = true
    ·rw [e93] at ho
     have hxl := fin e93
     subst hxl
     simp [e40, e91, e123, e41] at ho
     obtain ⟨ho1, rfl⟩ := ho
     exact take_93 h ht ho1 hi
    by_cases e125 : same x (bs [125]) = true
    ·rw [e125] at ho
     have hxl := fin e125
     subst hxl
     simp [e40, e91, e123, e41, e93] at ho
     obtain ⟨ho1, rfl⟩ := ho
     exact take_125 h ht ho1 hi
    have n : ∀ {l : List UInt8}, ¬ same x (bs l) = true → (x.toList == l) = false := by
     intro l hl
     have h2 := same_eq x (bs l)
     rw [show (bs l).toList = l from by rw [bs, ByteArray.toList_mk]] at h2
     rw [h2]
     simpa using hl
    simp [e40, e91, e123, e41, e93, e125] at ho
    subst ho
    exact take_plain h ht (n e40) (n e91) (n e123) (n e41) (n e93) (n e125) hi

def wantF (s : ByteArray) (st : PSt) (x : ByteArray) : Option PSt := match takeF s st x with
 | some (true, st') => some st'
 | _ => none
set_option maxRecDepth 100000 in
theorem want_any {s : ByteArray} {p : Nat} {st st' : PSt} {w : World} (h : PP s p st w) {x : ByteArray} (hx : wantF s st x = some st') :
  Calls Tryz.prog 105 #[.pointer (some ⟨p, 0, none⟩), .string x] w fun r w' => r = .returned (.tuple #[]) ∧ PP s p st' w' ∧ Keeps [p] w w' := by
 have hx' : takeF s st x = some (true, st') := by
  unfold wantF at hx
  split at hx
  ·rename_i st2 h2
   obtain rfl := Option.some.inj hx
   exact h2
  ·cases hx
 have ht := take_any h hx'
 have H := zh h; have HT := zh ht
 clear h hx hx' ht
 go_enter Tryz.func105, Tryz.ntmps105
 go_wp2_with fail
 refine (ok_any H.out).mono ?_
 rintro r w' ⟨rfl, hw'⟩
 rw [hw']
 clear hw'
 go_wp2_with fail
 refine HT.out.mono ?_
 rintro r w1 ⟨rfl, hP, hK⟩
 have HP := zh hP; have HK := zh hK
 clear hP hK
 go_wp2_with fail
 go_end0
 exact ⟨rfl, HP.out, HK.out⟩

/-- Lines, and signs 'also', are gone by. -/
def linesF (s also : ByteArray) : Nat → PSt → Option PSt
 | 0, _ => none
 | f + 1, st => do
  let t ← nextF s st.pos false
  if t.kind = 1 ∨ (same also (bs []) = false ∧ t.kind = 9 ∧ same t.text also = true) then linesF s also f ⟨t.to, st.opn, st.ng⟩ else some st

theorem lines_any {s : ByteArray} {p : Nat} {st st' : PSt} {w : World} (h : PP s p st w) {also : ByteArray} {fu : Nat} (hx : linesF s also fu st = some st') :
  Calls Tryz.prog 35 #[.pointer (some ⟨p, 0, none⟩), .string also] w fun r w' => r = .returned (.tuple #[]) ∧ PP s p st' w' ∧ Keeps [p] w w' := by
 have HP := zh h; have HX := zh hx
 clear h hx
 have hae := same_eq also (bs [])
 rw [show (bs []).toList = [] from by rw [bs, ByteArray.toList_mk]] at hae
 have HAE := zh hae
 clear hae
 go_enter Tryz.func35, Tryz.ntmps35
 go_wp2_with fail
 go_loopg [] fu (fun g wr => ∃ st1, linesF s also g st1 = some st' ∧ PP s p st1 wr ∧ Keeps [p] w wr)
 case atStart => exact ⟨st, HX.out, HP.out, Keeps.refl _ _⟩
 case round =>
  obtain ⟨st1, hl, hP, hK⟩ := hrel
  skip
  cases gk with
  | zero => simp [linesF] at hl
  | succ f =>
   rw [linesF] at hl
   cases ht : nextF s st1.pos false with
   | none => rw [ht] at hl; simp at hl
   | some t =>
    rw [ht] at hl
    simp only [Option.bind_eq_bind, Option.bind_some] at hl
    have H := zh hP; have HK := zh hK; have HT := zh ht
    obtain ⟨le1, le2, le3⟩ := nextF_le ht hP.le
    clear hP hK ht
    obtain ⟨kd, tx, nm, fr, te⟩ := t
    obtain ⟨pos, opn, ng⟩ := st1
    have hsq := same_eq tx also
    simp only at hl le1 le2 le3
    by_cases h1 : kd = 1
    ·subst h1
     rw [if_pos (.inl rfl)] at hl
     have HF := zh hl
     clear hl hsq
     have q1 := cell_of_heap H.out.row 1
     simp at q1
     have hlt0 := h_lt H.out.row
     go_wp2_with fail
     refine (ok_any H.out).mono ?_
     rintro r w' ⟨rfl, hw'⟩
     rw [hw']
     clear hw'
     go_wp2_with fail
     refine (peek_any H.out HT.out H.out.le).mono ?_
     rintro r w1 ⟨rfl, hk1⟩
     clear q1 hlt0
     have HP1 := zh (H.out.keep hk1)
     have HK1 := zh hk1
     clear hk1
     go_wp2_with ((with_reducible show wpList _ _ _ (Oper.mk none (.store 90 _ _) _ _ _ _ :: _) _ _); refine stT 90 w1.heap.size 0 _ (h_new _ _) rfl (.agg #[.int .i64 1, .string tx, .float .f64 nm, .int .i64 fr, .int .i64 te]) rfl (by kernel_rfl) (by simp [Value.cells]) (by simp [Value.cells, Value.oneCell']) ?_)
     intro w2 hs2
     have x0 := cell_of_heap hs2.row 0
     have x1 := cell_of_heap hs2.row 1
     have x2 := cell_of_heap hs2.row 2
     have x3 := cell_of_heap hs2.row 3
     have x4 := cell_of_heap hs2.row 4
     simp at x0 x1 x2 x3 x4
     have hsz2 := HK1.out.size
     have HTR2 := zh hs2.row
     have hst2 : Keeps [] w1 w2 := (Keeps.alloc [] w1 (tokC 0 ⟨#[]⟩ 0 0 0)).trans hs2.keeps (by simp)
     have HST2 := zh hst2
     have HK2 := zh (HK1.out.trans hst2 (by simp))
     clear hs2 hst2
     have HP2 := zh (HP1.out.keep HST2.out)
     have c0 := cell_of_heap HP2.out.row 0
     have f0 := frozen_of_heap HP2.out.row 0
     have c1 := cell_of_heap HP2.out.row 1
     have f1 := frozen_of_heap HP2.out.row 1
     have c2 := cell_of_heap HP2.out.row 2
     have f2 := frozen_of_heap HP2.out.row 2
     have c3 := cell_of_heap HP2.out.row 3
     have f3 := frozen_of_heap HP2.out.row 3
     have c4 := cell_of_heap HP2.out.row 4
     have f4 := frozen_of_heap HP2.out.row 4
     have c5 := cell_of_heap HP2.out.row 5
     have f5 := frozen_of_heap HP2.out.row 5
     simp at c0 c1 c2 c3 c4 c5
     have hlt := h_lt HP2.out.row
     go_wp2_with fail
     go_roundg f
     case measure => omega
     case rel =>
      have hrow : (w2.setCell ⟨p, 1, none⟩ (.int .i64 te)).heap[p]? = some (parC s ⟨te, opn, ng⟩) := by
       have := (h_set_eq (i := 1) (u := .int .i64 te) HP2.out.row)
       simpa using this
      have hkp : Keeps [p] w2 (w2.setCell ⟨p, 1, none⟩ (.int .i64 te)) := (Keeps.trans (Keeps.refl [p] w2) (Keeps.setCell [p] _ _ _ (by simp)) (by simp))
      exact ⟨⟨te, opn, ng⟩, HF.out, ⟨HP2.out.gl.keep hkp (by simp; exact HP2.out.p), hrow, HP2.out.p, HP2.out.size, le2, HP2.out.ob⟩, HK.out.trans ((HK2.out.weaken (fp' := [p]) (by simp)).trans hkp (by simp)) (by simp)⟩

    ·have n1 : (kd == 1) = false := beq_false_of_ne h1
     have n1' : (kd != 1) = true := by simp [h1]
     by_cases h2 : same also (bs []) = false ∧ kd = 9 ∧ same tx also = true
     ·obtain ⟨ha, rfl, hb⟩ := h2
      rw [if_pos (.inr ⟨ha, rfl, hb⟩)] at hl
      rw [hb] at hsq
      have hae := HAE.out
      rw [ha] at hae
      have hae2 : also.toList.isEmpty = false := by simpa using hae
      have HF := zh hl
      clear hl hb ha h1
      have q1 := cell_of_heap H.out.row 1
      simp at q1
      have hlt0 := h_lt H.out.row
      go_wp2_with fail
      refine (ok_any H.out).mono ?_
      rintro r w' ⟨rfl, hw'⟩
      rw [hw']
      clear hw'
      go_wp2_with fail
      refine (peek_any H.out HT.out H.out.le).mono ?_
      rintro r w1 ⟨rfl, hk1⟩
      clear q1 hlt0
      have HP1 := zh (H.out.keep hk1)
      have HK1 := zh hk1
      clear hk1
      go_wp2_with ((with_reducible show wpList _ _ _ (Oper.mk none (.store 90 _ _) _ _ _ _ :: _) _ _); refine stT 90 w1.heap.size 0 _ (h_new _ _) rfl (.agg #[.int .i64 9, .string tx, .float .f64 nm, .int .i64 fr, .int .i64 te]) rfl (by kernel_rfl) (by simp [Value.cells]) (by simp [Value.cells, Value.oneCell']) ?_)
      intro w2 hs2
      have x0 := cell_of_heap hs2.row 0
      have x1 := cell_of_heap hs2.row 1
      have x2 := cell_of_heap hs2.row 2
      have x3 := cell_of_heap hs2.row 3
      have x4 := cell_of_heap hs2.row 4
      simp at x0 x1 x2 x3 x4
      have hsz2 := HK1.out.size
      have HTR2 := zh hs2.row
      have hst2 : Keeps [] w1 w2 := (Keeps.alloc [] w1 (tokC 0 ⟨#[]⟩ 0 0 0)).trans hs2.keeps (by simp)
      have HST2 := zh hst2
      have HK2 := zh (HK1.out.trans hst2 (by simp))
      clear hs2 hst2
      have HP2 := zh (HP1.out.keep HST2.out)
      have c0 := cell_of_heap HP2.out.row 0
      have f0 := frozen_of_heap HP2.out.row 0
      have c1 := cell_of_heap HP2.out.row 1
      have f1 := frozen_of_heap HP2.out.row 1
      have c2 := cell_of_heap HP2.out.row 2
      have f2 := frozen_of_heap HP2.out.row 2
      have c3 := cell_of_heap HP2.out.row 3
      have f3 := frozen_of_heap HP2.out.row 3
      have c4 := cell_of_heap HP2.out.row 4
      have f4 := frozen_of_heap HP2.out.row 4
      have c5 := cell_of_heap HP2.out.row 5
      have f5 := frozen_of_heap HP2.out.row 5
      simp at c0 c1 c2 c3 c4 c5
      have hlt := h_lt HP2.out.row
      go_wp2_with fail
      go_roundg f
      case measure => omega
      case rel =>
       have hrow : (w2.setCell ⟨p, 1, none⟩ (.int .i64 te)).heap[p]? = some (parC s ⟨te, opn, ng⟩) := by
        have := (h_set_eq (i := 1) (u := .int .i64 te) HP2.out.row)
        simpa using this
       have hkp : Keeps [p] w2 (w2.setCell ⟨p, 1, none⟩ (.int .i64 te)) := (Keeps.trans (Keeps.refl [p] w2) (Keeps.setCell [p] _ _ _ (by simp)) (by simp))
       exact ⟨⟨te, opn, ng⟩, HF.out, ⟨HP2.out.gl.keep hkp (by simp; exact HP2.out.p), hrow, HP2.out.p, HP2.out.size, le2, HP2.out.ob⟩, HK.out.trans ((HK2.out.weaken (fp' := [p]) (by simp)).trans hkp (by simp)) (by simp)⟩

     ·rw [if_neg (by rintro (h | h); exact h1 h; exact h2 h)] at hl
      obtain rfl := Option.some.inj hl
      clear hl HX
      cases ha : same also (bs [])
      ·have hae := HAE.out
       rw [ha] at hae
       have hae2 : also.toList.isEmpty = false := by simpa using hae
       by_cases h9 : kd = 9
       ·subst h9
        have hb : same tx also = false := by
         cases hb : same tx also
         ·rfl
         ·exact absurd ⟨ha, rfl, hb⟩ h2
        rw [hb] at hsq
        clear hb ha h2 h1
        have q1 := cell_of_heap H.out.row 1
        simp at q1
        have hlt0 := h_lt H.out.row
        go_wp2_with fail
        refine (ok_any H.out).mono ?_
        rintro r w' ⟨rfl, hw'⟩
        rw [hw']
        clear hw'
        go_wp2_with fail
        refine (peek_any H.out HT.out H.out.le).mono ?_
        rintro r w1 ⟨rfl, hk1⟩
        clear q1 hlt0
        have HP1 := zh (H.out.keep hk1)
        have HK1 := zh hk1
        clear hk1
        go_wp2_with ((with_reducible show wpList _ _ _ (Oper.mk none (.store 90 _ _) _ _ _ _ :: _) _ _); refine stT 90 w1.heap.size 0 _ (h_new _ _) rfl (.agg #[.int .i64 9, .string tx, .float .f64 nm, .int .i64 fr, .int .i64 te]) rfl (by kernel_rfl) (by simp [Value.cells]) (by simp [Value.cells, Value.oneCell']) ?_)
        intro w2 hs2
        have x0 := cell_of_heap hs2.row 0
        have x1 := cell_of_heap hs2.row 1
        have x2 := cell_of_heap hs2.row 2
        have x3 := cell_of_heap hs2.row 3
        have x4 := cell_of_heap hs2.row 4
        simp at x0 x1 x2 x3 x4
        have hsz2 := HK1.out.size
        have HTR2 := zh hs2.row
        have hst2 : Keeps [] w1 w2 := (Keeps.alloc [] w1 (tokC 0 ⟨#[]⟩ 0 0 0)).trans hs2.keeps (by simp)
        have HST2 := zh hst2
        have HK2 := zh (HK1.out.trans hst2 (by simp))
        clear hs2 hst2
        have HP2 := zh (HP1.out.keep HST2.out)
        have c0 := cell_of_heap HP2.out.row 0
        have f0 := frozen_of_heap HP2.out.row 0
        have c1 := cell_of_heap HP2.out.row 1
        have f1 := frozen_of_heap HP2.out.row 1
        have c2 := cell_of_heap HP2.out.row 2
        have f2 := frozen_of_heap HP2.out.row 2
        have c3 := cell_of_heap HP2.out.row 3
        have f3 := frozen_of_heap HP2.out.row 3
        have c4 := cell_of_heap HP2.out.row 4
        have f4 := frozen_of_heap HP2.out.row 4
        have c5 := cell_of_heap HP2.out.row 5
        have f5 := frozen_of_heap HP2.out.row 5
        simp at c0 c1 c2 c3 c4 c5
        have hlt := h_lt HP2.out.row
        go_wp2_with fail
        exact bodyPost_ret (v := .tuple #[]) (by simp [results, Tryz.results35]) rfl ⟨rfl, HP2.out, HK.out.trans HK2.out (by simp)⟩

       ·have n9 : (kd == 9) = false := beq_false_of_ne h9
        clear ha h2 h1 h9 hsq
        have q1 := cell_of_heap H.out.row 1
        simp at q1
        have hlt0 := h_lt H.out.row
        go_wp2_with fail
        refine (ok_any H.out).mono ?_
        rintro r w' ⟨rfl, hw'⟩
        rw [hw']
        clear hw'
        go_wp2_with fail
        refine (peek_any H.out HT.out H.out.le).mono ?_
        rintro r w1 ⟨rfl, hk1⟩
        clear q1 hlt0
        have HP1 := zh (H.out.keep hk1)
        have HK1 := zh hk1
        clear hk1
        go_wp2_with ((with_reducible show wpList _ _ _ (Oper.mk none (.store 90 _ _) _ _ _ _ :: _) _ _); refine stT 90 w1.heap.size 0 _ (h_new _ _) rfl (.agg #[.int .i64 kd, .string tx, .float .f64 nm, .int .i64 fr, .int .i64 te]) rfl (by kernel_rfl) (by simp [Value.cells]) (by simp [Value.cells, Value.oneCell']) ?_)
        intro w2 hs2
        have x0 := cell_of_heap hs2.row 0
        have x1 := cell_of_heap hs2.row 1
        have x2 := cell_of_heap hs2.row 2
        have x3 := cell_of_heap hs2.row 3
        have x4 := cell_of_heap hs2.row 4
        simp at x0 x1 x2 x3 x4
        have hsz2 := HK1.out.size
        have HTR2 := zh hs2.row
        have hst2 : Keeps [] w1 w2 := (Keeps.alloc [] w1 (tokC 0 ⟨#[]⟩ 0 0 0)).trans hs2.keeps (by simp)
        have HST2 := zh hst2
        have HK2 := zh (HK1.out.trans hst2 (by simp))
        clear hs2 hst2
        have HP2 := zh (HP1.out.keep HST2.out)
        have c0 := cell_of_heap HP2.out.row 0
        have f0 := frozen_of_heap HP2.out.row 0
        have c1 := cell_of_heap HP2.out.row 1
        have f1 := frozen_of_heap HP2.out.row 1
        have c2 := cell_of_heap HP2.out.row 2
        have f2 := frozen_of_heap HP2.out.row 2
        have c3 := cell_of_heap HP2.out.row 3
        have f3 := frozen_of_heap HP2.out.row 3
        have c4 := cell_of_heap HP2.out.row 4
        have f4 := frozen_of_heap HP2.out.row 4
        have c5 := cell_of_heap HP2.out.row 5
        have f5 := frozen_of_heap HP2.out.row 5
        simp at c0 c1 c2 c3 c4 c5
        have hlt := h_lt HP2.out.row
        go_wp2_with fail
        exact bodyPost_ret (v := .tuple #[]) (by simp [results, Tryz.results35]) rfl ⟨rfl, HP2.out, HK.out.trans HK2.out (by simp)⟩

      ·have hae := HAE.out
       rw [ha] at hae
       have hae2 : also.toList.isEmpty = true := by simpa using hae
       clear ha h2 h1 hsq
       have q1 := cell_of_heap H.out.row 1
       simp at q1
       have hlt0 := h_lt H.out.row
       go_wp2_with fail
       refine (ok_any H.out).mono ?_
       rintro r w' ⟨rfl, hw'⟩
       rw [hw']
       clear hw'
       go_wp2_with fail
       refine (peek_any H.out HT.out H.out.le).mono ?_
       rintro r w1 ⟨rfl, hk1⟩
       clear q1 hlt0
       have HP1 := zh (H.out.keep hk1)
       have HK1 := zh hk1
       clear hk1
       go_wp2_with ((with_reducible show wpList _ _ _ (Oper.mk none (.store 90 _ _) _ _ _ _ :: _) _ _); refine stT 90 w1.heap.size 0 _ (h_new _ _) rfl (.agg #[.int .i64 kd, .string tx, .float .f64 nm, .int .i64 fr, .int .i64 te]) rfl (by kernel_rfl) (by simp [Value.cells]) (by simp [Value.cells, Value.oneCell']) ?_)
       intro w2 hs2
       have x0 := cell_of_heap hs2.row 0
       have x1 := cell_of_heap hs2.row 1
       have x2 := cell_of_heap hs2.row 2
       have x3 := cell_of_heap hs2.row 3
       have x4 := cell_of_heap hs2.row 4
       simp at x0 x1 x2 x3 x4
       have hsz2 := HK1.out.size
       have HTR2 := zh hs2.row
       have hst2 : Keeps [] w1 w2 := (Keeps.alloc [] w1 (tokC 0 ⟨#[]⟩ 0 0 0)).trans hs2.keeps (by simp)
       have HST2 := zh hst2
       have HK2 := zh (HK1.out.trans hst2 (by simp))
       clear hs2 hst2
       have HP2 := zh (HP1.out.keep HST2.out)
       have c0 := cell_of_heap HP2.out.row 0
       have f0 := frozen_of_heap HP2.out.row 0
       have c1 := cell_of_heap HP2.out.row 1
       have f1 := frozen_of_heap HP2.out.row 1
       have c2 := cell_of_heap HP2.out.row 2
       have f2 := frozen_of_heap HP2.out.row 2
       have c3 := cell_of_heap HP2.out.row 3
       have f3 := frozen_of_heap HP2.out.row 3
       have c4 := cell_of_heap HP2.out.row 4
       have f4 := frozen_of_heap HP2.out.row 4
       have c5 := cell_of_heap HP2.out.row 5
       have f5 := frozen_of_heap HP2.out.row 5
       simp at c0 c1 c2 c3 c4 c5
       have hlt := h_lt HP2.out.row
       go_wp2_with fail
       exact bodyPost_ret (v := .tuple #[]) (by simp [results, Tryz.results35]) rfl ⟨rfl, HP2.out, HK.out.trans HK2.out (by simp)⟩

end Go.Proofs.YtkfillfkbhbbjaaGreatDoor
