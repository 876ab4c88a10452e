/- What is read of the laid tables: the cells of optimize and float64info. -/
import Derived.Test.YtkfillfkbhbbjaaGreatDoorTokE
import Derived.Test.YtkfillfkbhbbjaaGreatDoorRows
import Derived.ProofKit
import Derived.OpenShut
import Derived.LaidMore
import Derived.Lay
set_option maxRecDepth 100000
set_option maxHeartbeats 4000000
set_option linter.unusedSimpArgs false
set_option linter.unusedVariables false
namespace Go.Proofs.YtkfillfkbhbbjaaGreatDoor
open Go.ChangeShapes Go.WideShapes Go.ChangeAt Go.RowKit Go.WideMaps Go.WideElems
theorem laidVars_mem {P : Program} {w : World} : ∀ {l : List (String × DataW Unit)} {ps : List MemPlace}, DataW.LaidVars P w l ps → ∀ {x : String × DataW Unit}, x ∈ l →
  ∃ g t cs fuel p, P.globalNamed x.1 = some g ∧ (P.globals[g]?).map (·.type) = some t ∧ w.var? P x.1 = some cs ∧ DataW.trod (fun _ => ()) P w 0 (fun _ => true) false fuel t cs.toList = some (x.2, p)
 | [], _, _, x, hx => by cases hx
 | (n, d) :: r, ps, h, x, hx => by
  obtain ⟨g, t, cs, fuel, p, q, h1, h2, h3, h4, h5, _⟩ := h
  rcases List.mem_cons.1 hx with rfl | hx
  ·exact ⟨g, t, cs, fuel, p, h1, h2, h3, h4⟩
  ·exact laidVars_mem h5 hx
theorem cellsOf178 : Tryz.prog.cellsOf 178 = 1 := by kernel_rfl
set_option maxRecDepth 100000 in
theorem gl_of_laid {W : World} {l : List (String × DataW Unit)} (h : laidMetH Tryz.prog l W) (hh : (l.all fun x => x.2.handleName?.isNone) = true) (h1 : ("internal/strconv.optimize", Rows.laid_internal_strconv_optimize) ∈ l) (h2 : ("internal/strconv.float64info", Rows.laid_internal_strconv_float64info) ∈ l) : Gl W := by
 rw [MakeChecks.laidMetH_plain _ _ _ hh] at h
 obtain ⟨ps, h, -⟩ := h
 obtain ⟨g, t, cs, fuel, p, hg, ht, hv, hd⟩ := laidVars_mem h h1
 obtain ⟨g2, t2, cs2, fuel2, p2, hg2, ht2, hv2, hd2⟩ := laidVars_mem h h2
 obtain rfl := Option.some.inj ((show Tryz.prog.globalNamed "internal/strconv.optimize" = some 12 by kernel_rfl).symm.trans hg)
 obtain rfl := Option.some.inj ((show Tryz.prog.globalNamed "internal/strconv.float64info" = some 14 by kernel_rfl).symm.trans hg2)
 obtain rfl := Option.some.inj ((show (Tryz.prog.globals[12]?).map (·.type) = some 4 by kernel_rfl).symm.trans ht)
 obtain rfl := Option.some.inj ((show (Tryz.prog.globals[14]?).map (·.type) = some 265 by kernel_rfl).symm.trans ht2)
 obtain ⟨b, hb, hx⟩ := DataW.trod_bool Tryz.underlying4 hd
 have hb2 : b = true := by
  have e : (DataW.lit (.bool true) : DataW Unit) = .lit (.bool b) := (Prod.mk.inj hx).1
  simpa using e.symm
 subst hb2
 have c12 : W.cell? ⟨12, 0, none⟩ = some (.bool true) := by
  rw [World.var?_cell hg hv 0]
  have : cs.toList[0]? = some (.bool true) := by rw [hb]; rfl
  simpa using this
 obtain ⟨xs, n2, _, hxe, _, hxl, hfld⟩ := DataW.trod_struct Tryz.underlying265 hd2
 have f0 : DataW.trod (fun _ => ()) Tryz.prog W 0 (fun _ => true) false n2 178 ((cs2.toList.drop 0).take (Tryz.prog.cellsOf 178)) = xs[0]? := hfld 0 _ rfl
 rw [cellsOf178] at f0
 have hxl3 : xs.length = 3 := hxl
 have hx0 : xs[0]? = some (xs[0]'(by omega)) := List.getElem?_eq_getElem _
 rw [hx0] at f0
 obtain ⟨z, e1, e2, _⟩ := DataW.trod_int Tryz.underlying178 f0
 have e3 : (xs.map (·.1)) = [.lit (.int .u64 52), .lit (.int .u64 11), .lit (.int .i64 (-1023))] := (DataW.agg.inj (Prod.mk.inj hxe).1).symm
 have e4 : (xs.map (·.1))[0]? = some (.lit (.int .u64 52)) := by rw [e3]; rfl
 rw [List.getElem?_map, hx0, e2] at e4
 have hz : z = 52 := by simpa using e4
 subst hz
 have c14 : W.cell? ⟨14, 0, none⟩ = some (.int .u64 52) := by
  rw [World.var?_cell hg2 hv2 0]
  have h0 : ((cs2.toList.drop 0).take 1)[0]? = some (.int .u64 52) := by rw [e1]; rfl
  simpa using h0
 exact ⟨c12, c14, World.block_lt_of_cell? W ⟨14, 0, none⟩ c14⟩
theorem own : ownKnob Tryz.prog.godebug = none := by kernel_rfl
theorem laidOut : laidOutB Tryz.prog = true := by kernel_rfl
end Go.Proofs.YtkfillfkbhbbjaaGreatDoor
