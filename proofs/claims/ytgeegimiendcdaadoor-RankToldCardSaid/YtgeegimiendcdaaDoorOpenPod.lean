/- An object that is an argument, opened: the parts that rank.Less looks at. -/
import Derived.Test.YtgeegimiendcdaaDoorLess
import Derived.SizedLaws
import Derived.ChangeArms
import Derived.WideShapes
import Derived.OpenShut
namespace Go.Proofs.YtgeegimiendcdaaDoor
set_option linter.unusedVariables false
open Go.ChangeShapes Go.WideShapes Go.RowKit
theorem okWide_agg {P : Program} {W : World} {r : Reach} {b0 : Nat} {t : TypeId} {fs : Array Field} {v : Value} (ht : P.underlying t = some (.struct fs)) (h : Value.okWide P W r b0 t v) : ∃ cs, v = .agg cs ∧ cs.size = P.cellsOf t := by
  unfold Value.okWide at h
  rw [ht] at h
  obtain ⟨cs, h1, h2, _⟩ := h
  exact ⟨cs, h1, h2⟩
theorem one_of_take {cs : Array Value} {o : Nat} {v : Value} (h : (cs.toList.drop o).take 1 = [v]) : cs[o]? = some v := by
  have h1 : ((cs.toList.drop o).take 1)[0]? = some v := by rw [h]; rfl
  rw [List.getElem?_take, if_pos (by omega), List.getElem?_drop, Nat.add_zero] at h1
  simpa using h1

set_option maxRecDepth 100000 in
theorem open_pod {H : Type} {enc : TypeId × Value → H} {W : World} {base : Nat} {spare : Nat → Bool} {held : Bool} {r : Reach} {b0 : Nat} {v : Value} {d : DataW H} {ps : List MemPlace}
    (hval : Value.okWide Tryd.prog W r b0 27 v) (hw : ∀ n ∈ d.weights Tryd.prog 27, n ≤ reachBytes) (h : DataW.Trod enc Tryd.prog W base spare held 27 v d ps) :
    ∃ cs n b o p rd, v = .agg cs ∧ Pod cs n b o p rd ∧ n.size ≤ 140737488351232 ∧ -9223372036854775808 ≤ b ∧ b ≤ 9223372036854775807 := by
  have hu := Tryd.underlying27
  obtain ⟨cs, rfl, hsz⟩ := okWide_agg hu hval
  rw [show Tryd.prog.cellsOf 27 = 32 by kernel_rfl] at hsz
  obtain ⟨fuel, hf⟩ := h
  obtain ⟨xs, m, rfl, hx, _, hl, hfd⟩ := DataW.trod_struct hu hf
  have c1 : Tryd.prog.cellsOf 9 = 1 := by kernel_rfl
  have c2 : Tryd.prog.cellsOf 3 = 1 := by kernel_rfl
  have c3 : Tryd.prog.cellsOf 4 = 1 := by kernel_rfl
  have f1 : DataW.trod enc Tryd.prog W base spare held m 9 ((cs.toList.drop 1).take (Tryd.prog.cellsOf 9)) = xs[1]? := hfd 1 _ rfl
  rw [c1] at f1
  have f3 : DataW.trod enc Tryd.prog W base spare held m 3 ((cs.toList.drop 3).take (Tryd.prog.cellsOf 3)) = xs[3]? := hfd 3 _ rfl
  rw [c2] at f3
  have f12 : DataW.trod enc Tryd.prog W base spare held m 9 ((cs.toList.drop 13).take (Tryd.prog.cellsOf 9)) = xs[12]? := hfd 12 _ rfl
  rw [c1] at f12
  have f13 : DataW.trod enc Tryd.prog W base spare held m 3 ((cs.toList.drop 14).take (Tryd.prog.cellsOf 3)) = xs[13]? := hfd 13 _ rfl
  rw [c2] at f13
  have f14 : DataW.trod enc Tryd.prog W base spare held m 4 ((cs.toList.drop 15).take (Tryd.prog.cellsOf 4)) = xs[14]? := hfd 14 _ rfl
  rw [c3] at f14
  have ex : ∀ j, j < xs.length → ∃ y, xs[j]? = some y := fun j hj => ⟨_, List.getElem?_eq_getElem hj⟩
  have hlen : 14 < xs.length := by rw [hl]; decide
  obtain ⟨y1, e1⟩ := ex 1 (by omega)
  obtain ⟨y3, e3⟩ := ex 3 (by omega)
  obtain ⟨y12, e12⟩ := ex 12 (by omega)
  obtain ⟨y13, e13⟩ := ex 13 (by omega)
  obtain ⟨y14, e14⟩ := ex 14 (by omega)
  rw [e1] at f1; rw [e3] at f3; rw [e12] at f12; rw [e13] at f13; rw [e14] at f14
  obtain ⟨n, g1, x1, _⟩ := DataW.trod_string Tryd.underlying9 f1
  obtain ⟨b, g3, _, wb⟩ := DataW.trod_int Tryd.underlying3 f3
  obtain ⟨o, g12, _, _⟩ := DataW.trod_string Tryd.underlying9 f12
  obtain ⟨p, g13, _, _⟩ := DataW.trod_int Tryd.underlying3 f13
  obtain ⟨rd, g14, _⟩ := DataW.trod_bool Tryd.underlying4 f14
  have bb := bounds_i64 wb
  obtain ⟨hd, _⟩ := Prod.mk.inj hx
  refine ⟨cs, n, b, o, p, rd, rfl, ⟨hsz, one_of_take g1, one_of_take g3, one_of_take g12, one_of_take g13, one_of_take g14⟩, ?_, bb.1, bb.2⟩
  have hz : n.data.toList.length ≤ reachBytes := by
    refine hw _ ?_
    rw [hd]
    unfold DataW.weights
    rw [hu]
    refine DataW.weights_mem_each (j := 1) (t := 9) (d := y1.1) rfl (by simp [e1]) _ ?_
    rw [x1]
    simp [DataW.weights]
  rw [Array.length_toList] at hz
  exact hz
end Go.Proofs.YtgeegimiendcdaaDoor
