/- Lemmas on which the law stands, part 2: Step, MapS, BytesA, Dev, Reg, RowG, Gov, DevA, DevB, DevC, DevD, DevE, DevF, BytesR, DevH, DevI, MapR, DevR, DevT, DevM, RefD, Err, DevJ. -/
import Derived.Test.YtnmbkaccoaeijaaDoorKDK1
import Derived.Maps.OwnSet
import Derived.StringKeys
import Derived.WalkKit
import Derived.Laws.AppendOwn
import Derived.Deep.AppendSrc
import Derived.Test.YtnmbkaccoaeijaaDoorProg
import Derived.Laws.Rows
import Derived.Laws.CopyOwn
import Derived.Lib.SmallJoins
import Derived.Laws.Tables
import Derived.Great.BuildSlice
import Derived.Lib.Hide
import Derived.BigQuiet
import Derived.WalkSpells
import Derived.Maps.RangeWalk
import Derived.Deep.QuietTactic
import Derived.RegionTactic
import Derived.BigRegion
import Derived.LaidEql
import Derived.Stop.Asserts
import Derived.RowKitTokens
namespace Go.Proofs.YtnmbkaccoaeijaaDoorW.PrintMore
def mn (a b : Int) : Int := if b < a then b else a
def mx (a b : Int) : Int := if a < b then b else a
theorem max2_int (k k' : IntKind) (x y : Int) : Builtin.max2 (.int k x) (.int k' y) = pure (.int k (if x < y then y else x)) := by simp only [Builtin.max2, gt_iff_lt]
theorem min2_int (k k' : IntKind) (x y : Int) : Builtin.min2 (.int k x) (.int k' y) = pure (.int k (if y < x then y else x)) := by simp only [Builtin.min2]
theorem max_two (ats : Array TypeId) (ty : TypeId) (a b : Value) : Builtin.max_ ats ty #[a, b] = (Builtin.max2 a b >>= fun s => pure s) := by simp only [Builtin.max_, List.foldlM_cons, List.foldlM_nil]
theorem min_two (ats : Array TypeId) (ty : TypeId) (a b : Value) : Builtin.min_ ats ty #[a, b] = (Builtin.min2 a b >>= fun s => pure s) := by simp only [Builtin.min_, List.foldlM_cons, List.foldlM_nil]
theorem max_three (ats : Array TypeId) (ty : TypeId) (a b c : Value) : Builtin.max_ ats ty #[a, b, c] = (Builtin.max2 a b >>= fun s => Builtin.max2 s c >>= fun s => pure s) := by simp only [Builtin.max_, List.foldlM_cons, List.foldlM_nil]
theorem min_three (ats : Array TypeId) (ty : TypeId) (a b c : Value) : Builtin.min_ ats ty #[a, b, c] = (Builtin.min2 a b >>= fun s => Builtin.min2 s c >>= fun s => pure s) := by simp only [Builtin.min_, List.foldlM_cons, List.foldlM_nil]
theorem max_four (ats : Array TypeId) (ty : TypeId) (a b c d : Value) : Builtin.max_ ats ty #[a, b, c, d] = (Builtin.max2 a b >>= fun s => Builtin.max2 s c >>= fun s => Builtin.max2 s d >>= fun s => pure s) := by simp only [Builtin.max_, List.foldlM_cons, List.foldlM_nil]
theorem min_four (ats : Array TypeId) (ty : TypeId) (a b c d : Value) : Builtin.min_ ats ty #[a, b, c, d] = (Builtin.min2 a b >>= fun s => Builtin.min2 s c >>= fun s => Builtin.min2 s d >>= fun s => pure s) := by simp only [Builtin.min_, List.foldlM_cons, List.foldlM_nil]
end Go.Proofs.YtnmbkaccoaeijaaDoorW.PrintMore
namespace Go.Proofs.YtnmbkaccoaeijaaDoorW.PrintWords
open Go.RowKit
section
variable {P : Program} {ops : Array Oper} {rest : List Oper} {o : Oper} {a : Act} {Q : Exit → Act → World → Prop} {W : World}
/-- Is it this call? -/
theorem gate_callee {f : FuncId} {as_ : Array Operand} {ts : Array TypeId} (_ho : o.op = .call { callee := .value (.func f), args := as_, argTypes := ts }) (h : wpList P ops Q (o :: rest) a W) : wpList P ops Q (o :: rest) a W := h
/-- Is it this builtin? -/
theorem gate_builtin {b : Builtin} {xs : Array Operand} {ts : Array TypeId} (_ho : o.op = .call { callee := .builtin b, args := xs, argTypes := ts }) (h : wpList P ops Q (o :: rest) a W) : wpList P ops Q (o :: rest) a W := h
end
theorem calls_of_args {P : Program} {f : FuncId} {args args' : Array Value} {w : World} {Q : Ending → World → Prop} (h : args = args') (hc : Calls P f args' w Q) : Calls P f args w Q := h ▸ hc
end Go.Proofs.YtnmbkaccoaeijaaDoorW.PrintWords
set_option linter.unusedVariables false
set_option linter.unusedSimpArgs false
/- The steps of a drawn region, in few words: what has come up is a number's bits. -/
namespace Go.Proofs.YtnmbkaccoaeijaaDoor
open Go.RowKit Go.Proofs.YtnmbkaccoaeijaaDoorW.PrintWords Go.Proofs.YtnmbkaccoaeijaaDoorW.PrintLast
def bs (n m : Nat) : Array Bool := ((List.range n).map m.testBit).toArray
theorem sA {α : Type} {xs : List α} {i : Nat} {a : α} : xs.toArray.setIfInBounds i a = (xs.set i a).toArray := List.setIfInBounds_toArray _ _ _
theorem sB {α : Type} {x a : α} {xs : List α} : (x :: xs).set 0 a = a :: xs := List.set_cons_zero
theorem sC {α : Type} {x a : α} {xs : List α} {i : Nat} : (x :: xs).set (i + 1) a = x :: xs.set i a := List.set_cons_succ
section
variable {P : Program} {md : Region.Mode} {ops : Array Oper} {ds : List Nat} {Q : Exit → Act → World → Prop} {S : World → Prop} {T : Bool × List (List Nat × List Nat)} {B : List Nat} {oi : Oper} {fuel : Nat} {l : Array Bool} {a : Act} {w : World}
theorem pu (i : Nat) (N : Option Tmp) (l' : Array Bool) (hT : Aside0 (rtab md ops = T)) (hi : ops[i]? = some oi) (hN : oi.dst = N) (hk : anyT T l.toList l'.toList i = true) (hQ : ∀ v c a w, Q (.panic c) (a.put oi.dst v) w → Q (.panic c) a w)
    (h : ∃ v, Yields P ops oi v a ∧ ∃ a', a.put N v = a' ∧ wpAnyLast P md ops Q S ds fuel l' a' w) : wpAnyLast P md ops Q S ds (fuel + 1) l a w := by
  obtain ⟨v, hy, a', ha, h⟩ := h
  exact pure_ l' hi hN (any_of hT.out hk) (hQ v) hy ha h
theorem tk (i : Nat) (N : Option Tmp) (l' : Array Bool) (hT : Aside0 (rtab md ops = T)) (hB : Aside0 (waitsOk T.2 B = true)) (hi : ops[i]? = some oi) (hN : oi.dst = N) (hk : takeW T B ds l.toList l'.toList i = true) (hQ : ∀ v c a w, Q (.panic c) (a.put oi.dst v) w → Q (.panic c) a w) (hS : S w)
    (h : ∃ v, YieldsIf P ops S oi v a ∧ ∃ a', a.put N v = a' ∧ wpAnyLast P md ops Q S ds fuel l' a' w) : wpAnyLast P md ops Q S ds (fuel + 1) l a w := by
  obtain ⟨v, hy, a', ha, h⟩ := h
  exact take_ l' hi hN (take_ofW hT.out hB.out hk) (hQ v) hy hS ha h
theorem on1 (i : Nat) (N : Option Tmp) (l' : Array Bool) (hT : Aside0 (rtab md ops = T)) (hi : ops[i]? = some oi) (hN : oi.dst = N) (hk : (readyT T.2 l.toList == [i] && l.toList.set i true == l'.toList) = true) (hd : i ∉ ds)
    (h : ∀ K : Act → World → Prop, Shut (∀ a' w', S w' → (S w' → wpAnyLast P md ops Q S ds fuel l' a' w') → K a' w') → if Region.wanted oi (yielded ops a.tmps) = true then Oper.wp P oi a w K Q else K (a.put N undef) w) :
    wpAnyLast P md ops Q S ds (fuel + 1) l a w := one_ l' hi hN (one_of hT.out hk) hd h
theorem la1 (i : Nat) (N : Option Tmp) (l' : Array Bool) (hT : Aside0 (rtab md ops = T)) (hi : ops[i]? = some oi) (hN : oi.dst = N) (hk : (readyT T.2 l.toList == [i] && l.toList.set i true == l'.toList) = true) (hd : i ∈ ds)
    (h : ∀ K : Act → World → Prop, Shut (∀ a' w', wpAnyLast P md ops Q S ds fuel l' a' w' → K a' w') → if Region.wanted oi (yielded ops a.tmps) = true then Oper.wp P oi a w K Q else K (a.put N undef) w) :
    wpAnyLast P md ops Q S ds (fuel + 1) l a w := last_ l' hi hN (one_of hT.out hk) hd h
theorem nm (h : ∃ a', a = a' ∧ wpAnyLast P md ops Q S ds fuel l a' w) : wpAnyLast P md ops Q S ds fuel l a w := by
  obtain ⟨a', ha, h⟩ := h
  exact norm_ ha h
end
end Go.Proofs.YtnmbkaccoaeijaaDoor

/- Maps keyed by texts whose elements are read as they are (pointers, structs): what is at a key, how many there are; looked up, stored, deleted. -/
namespace Go.Proofs.YtnmbkaccoaeijaaDoor
open Go.Maps (Keyed string_keyed)
def hR (v : Value) : Option (DataW Value × List MemPlace) := some (.held v, [])
def kyL (s : ByteArray) : Lit := .string s.data.toList
theorem kyL_ne {s t : ByteArray} (h : s ≠ t) : kyL s ≠ kyL t := fun e => h (by
  obtain ⟨⟨a⟩⟩ := s
  obtain ⟨⟨b⟩⟩ := t
  have : a = b := by simpa [kyL] using e
  rw [this])
theorem ky_of {P : Program} {k : TypeId} (hk : P.underlying k = some .string) {s : ByteArray} (hs : s.size ≤ maxLen) : keyOf P k (.string s) = some (kyL s) := Go.WideMaps.keyOf_string_mk hk hs
theorem kyL_key (s : ByteArray) : WideAt.IsKeyLit (kyL s) := trivial
def MapS (P : Program) (sT : TypeId) (w : World) (b : Nat) (M : ByteArray → Option Value) (c : Nat) : Prop :=
  ∃ D n, w.ownsMap P sT hR b n D ∧ n < maxLen ∧ n ≤ c + 0 ∧ Maps.size D = c ∧ ∀ s : ByteArray, Maps.has D (kyL s) = (M s).isSome ∧ ∀ v, M s = some v → ∀ z, D.atKey (kyL s) z = .held v
def putM (M : ByteArray → Option Value) (s : ByteArray) (v : Value) : ByteArray → Option Value := fun t => if t = s then some v else M t
def delM (M : ByteArray → Option Value) (s : ByteArray) : ByteArray → Option Value := fun t => if t = s then none else M t
theorem ownsMap_tight {P : Program} {k : TypeId} {R : Value → Option (DataW Value × List MemPlace)} {w : World} {b n : Nat} {D : DataW Value} (h : w.ownsMap P k R b n D) : w.ownsMap P k R b (Maps.size D) D := by
  obtain ⟨es, clock, hb, F, hs, rfl⟩ := h
  exact ⟨es, clock, hb, F, by simp [Maps.size, length_sorted], rfl⟩
section
variable {P : Program} {sT : TypeId} {w : World} {b c : Nat} {M : ByteArray → Option Value}
theorem MapS.lt (h : MapS P sT w b M c) : b < w.heap.size := by
  obtain ⟨D, n, h, _⟩ := h
  exact h.lt
theorem MapS.kept {w' : World} {row : Option Nat} (h : MapS P sT w b M c) (hg : w.grownBy w' row) (hne : some b ≠ row) : MapS P sT w' b M c := by
  obtain ⟨D, n, h, r⟩ := h
  exact ⟨D, n, h.kept hg hne, r⟩
theorem MapS.same {w' : World} (h : MapS P sT w b M c) (he : w'.heap[b]? = w.heap[b]?) : MapS P sT w' b M c := by
  obtain ⟨D, n, ⟨es, clock, hb, F, hs, hD⟩, r⟩ := h
  exact ⟨D, n, ⟨es, clock, he.trans hb, F, hs, hD⟩, r⟩
theorem MapS.made (w : World) : MapS P sT (w.alloc (.map #[] 0)) w.heap.size (fun _ => none) 0 := by
  refine ⟨_, 0, World.ownsMap_made w P sT hR, by decide, Nat.le_refl _, rfl, fun s => ⟨rfl, fun v hv => by cases hv⟩⟩
theorem MapS.map {P : Program} (h : MapS P sT w b M c) : ∃ es clock, w.heap[b]? = some (.map es clock) := by
  obtain ⟨D, n, ⟨es, clock, hb, _⟩, _⟩ := h
  exact ⟨es, clock, hb⟩
theorem MapS.look {t e : TypeId} (h : MapS P sT w b M c) (hs : P.underlying sT = some .string) (ht : P.underlying t = some (.map sT e)) {z : Value} (hz : (zeroValue e).run P w = .ok z w) {s : ByteArray} (hl : s.size ≤ maxLen) :
    (Instr.lookup t (.map (some b)) (.string s) true).run P w = .ok (.tuple #[(M s).getD z, .bool (M s).isSome]) w := by
  obtain ⟨D, n, h, _, _, _, hM⟩ := h
  obtain ⟨v, ps, hrun, hv⟩ := h.look_ok (string_keyed hs) ht hz (zd := .held z) (zp := []) rfl (ky_of hs hl)
  obtain ⟨h1, h2⟩ := hM s
  have hv' : DataW.held v = D.atKey (kyL s) (.held z) := congrArg Prod.fst (Option.some.inj hv)
  rw [h1] at hrun
  cases hm : M s with
  | none =>
    rw [hm] at hrun h1
    rw [Maps.atKey_of_not_has h1] at hv'
    injection hv' with hv'
    rw [hrun, hv']
    rfl
  | some u =>
    rw [hm] at hrun
    rw [h2 u hm] at hv'
    injection hv' with hv'
    rw [hrun, hv']
    rfl
theorem MapS.len {t e : TypeId} (h : MapS P sT w b M c) (ht : P.underlying t = some (.map sT e)) (ty : TypeId) : (Builtin.len_ #[t] ty #[.map (some b)]).run P w = .ok (.int .i64 c) w := by
  obtain ⟨D, n, h, _, _, hc, _⟩ := h
  rw [h.len ht ty, hc]
theorem MapS.store {t e : TypeId} (h : MapS P sT w b M c) (hs : P.underlying sT = some .string) (ht : P.underlying t = some (.map sT e)) {s : ByteArray} (hl : s.size ≤ maxLen) (v : Value) (hc : c + 1 < maxLen) :
    ∃ w', (Instr.mapUpdate t (.map (some b)) (.string s) v).run P w = .ok () w' ∧ MapS P sT w' b (putM M s v) (if (M s).isSome then c else c + 1) ∧ w.mapTurned w' b := by
  obtain ⟨D, n, h, hn, hnc, hsz, hM⟩ := h
  have hK : Keyed P sT := string_keyed hs
  obtain ⟨w', hrun, r1, r2⟩ := h.store hK ht hn (ky_of hs hl) (d := .held v) (ps := []) rfl
  have hT := h.tidy hK
  have hsp : Maps.size (D.put (kyL s) (.held v)) = if (M s).isSome then c else c + 1 := by
    rw [Maps.size_put hT, (hM s).1, hsz]
  refine ⟨w', hrun, ⟨D.put (kyL s) (.held v), Maps.size (D.put (kyL s) (.held v)), ownsMap_tight r1, ?_, ?_, hsp, ?_⟩, r2⟩
  · rw [hsp]; split <;> omega
  · rw [hsp]; exact Nat.le_refl _
  · intro u
    by_cases hu : u = s
    · subst hu
      refine ⟨?_, ?_⟩
      · rw [Maps.has_put_same hT.isMap (kyL_key u)]
        simp [putM]
      · intro x hx z
        have : v = x := by simpa [putM] using hx
        rw [Maps.atKey_put_same hT.isMap (kyL_key u), this]
    · have hk := kyL_ne hu
      refine ⟨?_, ?_⟩
      · rw [Maps.has_put_other hk, (hM u).1]
        simp [putM, hu]
      · intro x hx z
        rw [Maps.atKey_put_other hk]
        exact (hM u).2 x (by simpa [putM, hu] using hx) z
theorem MapS.drop {t e : TypeId} (h : MapS P sT w b M c) (hs : P.underlying sT = some .string) (ht : P.underlying t = some (.map sT e)) {s : ByteArray} (hl : s.size ≤ maxLen) (ty : TypeId) :
    ∃ w', (Builtin.delete_ #[t, sT] ty #[.map (some b), .string s]).run P w = .ok (.tuple #[]) w' ∧ MapS P sT w' b (delM M s) (if (M s).isSome then c - 1 else c) ∧ w.mapTurned w' b := by
  obtain ⟨D, n, h, hn, hnc, hsz, hM⟩ := h
  have hK : Keyed P sT := string_keyed hs
  obtain ⟨w', hrun, r1, r2⟩ := h.drop hK ht (ky_of hs hl) ty
  have hT := h.tidy hK
  have hsd := Maps.size_del (k := kyL s) hT
  rw [(hM s).1, hsz] at hsd
  have hsp : Maps.size (D.del (kyL s)) = if (M s).isSome then c - 1 else c := by
    split at hsd <;> rename_i hh
    · rw [if_pos hh]; omega
    · rw [if_neg hh]; omega
  refine ⟨w', hrun, ⟨D.del (kyL s), Maps.size (D.del (kyL s)), ownsMap_tight r1, ?_, ?_, hsp, ?_⟩, r2⟩
  · have := h.size_le
    rw [hsp]; split <;> omega
  · rw [hsp]; exact Nat.le_refl _
  · intro u
    by_cases hu : u = s
    · subst hu
      refine ⟨?_, ?_⟩
      · rw [Maps.has_del_same]
        simp [delM]
      · intro x hx z
        simp [delM] at hx
    · have hk := kyL_ne hu
      refine ⟨?_, ?_⟩
      · rw [Maps.has_del_other hk, (hM u).1]
        simp [delM, hu]
      · intro x hx z
        rw [Maps.atKey_del_other hk]
        exact (hM u).2 x (by simpa [delM, hu] using hx) z
variable {ops : Array Oper} {rest : List Oper} {o : Oper} {a : Act} {Q : Exit → Act → World → Prop}
end
end Go.Proofs.YtnmbkaccoaeijaaDoor

/- A row of bytes of one's own, its spare places too, cut short or not: read, appended to. -/
namespace Go.Proofs.YtnmbkaccoaeijaaDoor
def bc (x : Int) : Value := .int .u8 x
theorem bc_one (l : List Int) : ∀ u ∈ l.map bc, u.oneCell' = true := by
  intro u hu
  obtain ⟨x, _, rfl⟩ := List.mem_map.1 hu
  rfl
def BytesAt (e : TypeId) (w : World) (base : Nat) (v : Value) (bs : List Int) : Prop :=
  (v = .slice none 0 0 ∧ bs = []) ∨ ∃ g cap cur, v = .slice (some ⟨g, 0, none⟩) bs.length cap ∧ base ≤ g ∧ w.heap[g]? = some (.cells cur e (0, 0)) ∧ bs.length ≤ cap ∧ cap ≤ cur.size ∧ cap ≤ maxLen ∧ cur.toList.take bs.length = bs.map bc
section
variable {e : TypeId} {w : World} {base : Nat} {v : Value} {bs : List Int}
theorem BytesAt.nil (e : TypeId) (w : World) (base : Nat) : BytesAt e w base (.slice none 0 0) [] := Or.inl ⟨rfl, rfl⟩
theorem BytesAt.own (h : BytesAt e w base v bs) : ∀ g, v.ownBlock = some g → base ≤ g ∧ g < w.heap.size ∧ ∃ cur, w.heap[g]? = some (.cells cur e (0, 0)) := by
  intro g hg
  rcases h with ⟨rfl, _⟩ | ⟨g', cap, cur, rfl, hb, hh, _⟩
  · simp [Value.ownBlock] at hg
  · simp [Value.ownBlock] at hg
    subst hg
    exact ⟨hb, (Array.getElem?_eq_some_iff.1 hh).1, cur, hh⟩
theorem BytesAt.same {w' : World} (h : BytesAt e w base v bs) (hs : ∀ g, v.ownBlock = some g → w'.heap[g]? = w.heap[g]?) : BytesAt e w' base v bs := by
  rcases h with h | ⟨g, cap, cur, rfl, hb, hh, r⟩
  · exact Or.inl h
  · exact Or.inr ⟨g, cap, cur, rfl, hb, (hs g rfl).trans hh, r⟩
theorem BytesAt.form (h : BytesAt e w base v bs) : ∃ A c, v = .slice A bs.length c ∧ bs.length ≤ c := by
  rcases h with ⟨rfl, rfl⟩ | ⟨g, cap, cur, rfl, hb, hh, hc, _⟩
  · exact ⟨none, 0, rfl, Nat.le_refl _⟩
  · exact ⟨_, cap, rfl, hc⟩
theorem BytesAt.cells (h : BytesAt e w base v bs) {A : Option Addr} {n c : Nat} (hv : v = .slice A n c) : n = bs.length ∧ ∀ (j : Nat) (x : Int), bs[j]? = some x → ∃ g, A = some ⟨g, 0, none⟩ ∧ w.cell? ⟨g, j, none⟩ = some (bc x) := by
  rcases h with ⟨rfl, rfl⟩ | ⟨g, cap, cur, rfl, hb, hh, hc, hc2, hm, ht⟩
  · injection hv with h1 h2 h3
    exact ⟨h2.symm, fun j x hx => by simp at hx⟩
  · injection hv with h1 h2 h3
    refine ⟨h2.symm, fun j x hx => ⟨g, h1.symm, ?_⟩⟩
    have hj : j < bs.length := (List.getElem?_eq_some_iff.1 hx).1
    rw [cell_of_row w g j cur e (0, 0) hh]
    have h4 : (bs.map bc)[j]? = some (bc x) := by rw [List.getElem?_map, hx]; rfl
    rw [← ht, List.getElem?_take, if_pos hj] at h4
    simpa using h4
theorem add_lit0 (g j : Nat) : (⟨g, 0, none⟩ : Addr).add j = ⟨g, j, none⟩ := by unfold Addr.add; split <;> simp_all
variable {P : Program}
theorem append_bytes (t ty : TypeId) (i : TypeInfo) (ht : P.underlying t = some (.slice e)) (hi : P.info? e = some i) (hz : i.zero = some (.int .u8 0)) (hs1 : i.size = 1) (hb1 : i.bytes = 1) (h : BytesAt e w base v bs)
    (a : Addr) (m c : Nat) (news : List Int) (hl : news.length = m) (hnews : ∀ j u, (news.map bc)[j]? = some u → w.cell? (a.add j) = some u) (hlim : bs.length + m ≤ 70368744177664) (hbase : base ≤ w.heap.size) :
    ∃ v' w', (Builtin.append_ #[t, t] ty #[v, .slice (some a) m c]).run P w = .ok v' w' ∧ BytesAt e w' base v' (bs ++ news) ∧ w.grownBy w' v.ownBlock ∧ (v'.ownBlock = v.ownBlock ∨ v'.ownBlock = some w.heap.size) := by
  have hl' : (news.map bc).length = m * i.size := by rw [List.length_map, hl, hs1, Nat.mul_one]
  have hcap : ∀ old, grownCap w (bs.length + m) old e ≤ maxLen := fun old => grownCap_le_maxLen w _ old e (by unfold maxLen; omega)
  rcases h with ⟨rfl, rfl⟩ | ⟨g, cap, cur, rfl, hb, hg, hn, hc, hm, htk⟩
  · by_cases hm0 : m = 0
    · subst hm0
      have hn : news = [] := List.eq_nil_of_length_eq_zero hl
      subst hn
      refine ⟨.slice none 0 0, w, ?_, BytesAt.nil _ _ _, ⟨rfl, rfl, rfl, Nat.le_refl _, fun _ _ _ => rfl⟩, Or.inl rfl⟩
      simp [Builtin.append_, run_underlying ht, sizeOf, typeInfo, hi, Builtin.lenOf, Builtin.firstCells, loadCells, loadCellsFrom]
    · have hr := run_append_nil (P := P) w t ty e i _ ht hi hz a m c (news.map bc) hl' hnews (by omega) (by simp at hlim; omega) (by rw [hb1]; simp at hlim; omega)
      refine ⟨_, _, hr, Or.inr ⟨w.heap.size, grownCap w m 0 e, _, ?_, hbase, heap_alloc_new w.drew _, ?_, ?_, ?_, ?_⟩, ⟨rfl, rfl, rfl, by simp, fun k hk _ => heap_alloc_old w.drew _ hk⟩, Or.inr rfl⟩
      · simp [hl]
      · simp only [List.nil_append, hl]
        have := grownCap_ge w m 0 e
        simpa using this
      · have := grownCap_ge w m 0 e
        simp [size_zeroCells, hl, Value.cells]
        omega
      · have := hcap 0
        simpa using this
      · simp
  · by_cases hroom : bs.length + m ≤ cap
    · have hfit : bs.length * i.size + (news.map bc).length ≤ cur.size := by rw [hs1, List.length_map, hl]; omega
      have hr := run_append_room (P := P) w t ty e i ht hi g bs.length cap cur hg a m c (news.map bc) hl' hnews (bc_one _) hroom hfit
      refine ⟨_, _, hr, Or.inr ⟨g, cap, _, ?_, hb, setRow_heap w g cur _ e _ hg, ?_, ?_, hm, ?_⟩, ⟨rfl, rfl, rfl, by simp, fun k _ hk => setRow_other w g k _ (fun e => hk (by simp [Value.ownBlock, e]))⟩, Or.inl rfl⟩
      · rw [List.length_append, hl]
      · rw [List.length_append, hl]; exact hroom
      · simp only [List.size_toArray, List.length_append, List.length_take, List.length_drop, Array.length_toList, List.length_map, hs1]
        omega
      · rw [hs1, Nat.mul_one, htk, List.map_append, ← List.map_append]
        have e1 : (bs ++ news).length = (bs.map bc ++ news.map bc).length := by simp
        rw [e1]
        simp only [List.map_append]
        exact List.take_left
    · have holds : ∀ j u, (bs.map bc)[j]? = some u → w.cell? ((⟨g, 0, none⟩ : Addr).add j) = some u := by
        intro j u hu
        rw [add_lit0, cell_of_row w g j cur e (0, 0) hg]
        rw [← htk, List.getElem?_take] at hu
        split at hu
        · simpa using hu
        · cases hu
      have hr := run_append_grow (P := P) w t ty e i _ ht hi hz ⟨g, 0, none⟩ bs.length cap (bs.map bc) (by rw [List.length_map, hs1, Nat.mul_one]) holds a m c (news.map bc) hl' hnews (by omega) (by omega) (growslice_fits (by omega) (by rw [hb1]; omega))
      refine ⟨_, _, hr, Or.inr ⟨w.heap.size, grownCap w (bs.length + m) cap e, _, ?_, hbase, heap_alloc_new w.drew _, ?_, ?_, hcap cap, ?_⟩, ⟨rfl, rfl, rfl, by simp, fun k hk _ => heap_alloc_old w.drew _ hk⟩, Or.inr rfl⟩
      · rw [List.length_append, hl]
      · rw [List.length_append, hl]
        exact grownCap_ge w _ cap e
      · have := grownCap_ge w (bs.length + m) cap e
        simp [size_zeroCells, hl, Value.cells]
        omega
      · have e1 : (bs ++ news).length = (bs.map bc ++ news.map bc).length := by simp
        rw [e1, List.map_append]
        simp only [Array.toList_append, List.append_assoc]
        rw [← List.append_assoc]
        exact List.take_left
theorem append_none (t ty : TypeId) (i : TypeInfo) (ht : P.underlying t = some (.slice e)) (hi : P.info? e = some i) (hs1 : i.size = 1) (h : BytesAt e w base v bs) (c : Nat) :
    (Builtin.append_ #[t, t] ty #[v, .slice none 0 c]).run P w = .ok v w := by
  rcases h with ⟨rfl, rfl⟩ | ⟨g, cap, cur, rfl, hb, hg, hn, hc, hm, htk⟩
  · simp [Builtin.append_, run_underlying ht, sizeOf, typeInfo, hi, Builtin.lenOf, Builtin.firstCells, loadCells, loadCellsFrom]
  · have hr := run_append_room_src (P := P) w t t ty e i ht hi g 0 bs.length cap (.slice none 0 c) 0 [] (Src.ofNil w ht c) (by omega) (by simp) (by simp)
    simpa [World.setCells] using hr
end
end Go.Proofs.YtnmbkaccoaeijaaDoor

/- A device in memory: its three cells, its map, each file's block and bytes; what a step on one file leaves. No walk. -/
namespace Go.Proofs.YtnmbkaccoaeijaaDoor
open Go.RowKit
abbrev dT : TypeId := 42
abbrev fT : TypeId := 49
abbrev bT : TypeId := 5
abbrev sT : TypeId := 9
structure FileS where
  bytes : List Int
  synced : Int
structure DevS where
  file : ByteArray → Option FileS
  count : Nat
  ops : Int
  left : Int
def DevS.new : DevS := ⟨fun _ => none, 0, 0, -1⟩
def DevS.put (S : DevS) (s : ByteArray) (f : FileS) : DevS := { S with file := fun t => if t = s then some f else S.file t, count := if (S.file s).isSome then S.count else S.count + 1 }
def FileAt (w : World) (base fb : Nat) (v : Value) (f : FileS) : Prop := w.heap[fb]? = some (.cells #[v, .int .i64 f.synced] fT (0, 0)) ∧ BytesAt bT w base v f.bytes
def ptrOf (p : Nat × Value) : Value := .pointer (some ⟨p.1, 0, none⟩)
structure Only (ok : Nat → Prop) (w w' : World) : Prop where
  os : w'.os = w.os
  tape : w'.tape = w.tape
  output : w'.output = w.output
  size : w.heap.size ≤ w'.heap.size
  block : ∀ k, k < w.heap.size → ¬ ok k → w'.heap[k]? = w.heap[k]?
theorem Only.refl (ok : Nat → Prop) (w : World) : Only ok w w := ⟨rfl, rfl, rfl, Nat.le_refl _, fun _ _ _ => rfl⟩
theorem Only.trans {ok : Nat → Prop} {a b c : World} (h : Only ok a b) (k : Only ok b c) : Only ok a c :=
  ⟨k.os.trans h.os, k.tape.trans h.tape, k.output.trans h.output, Nat.le_trans h.size k.size, fun i hi hn => (k.block i (Nat.lt_of_lt_of_le hi h.size) hn).trans (h.block i hi hn)⟩
theorem Only.mono {ok ok' : Nat → Prop} {a b : World} (h : Only ok a b) (hk : ∀ k, k < a.heap.size → ok k → ok' k) : Only ok' a b := ⟨h.os, h.tape, h.output, h.size, fun i hi hn => h.block i hi (fun ho => hn (hk i hi ho))⟩
theorem Only.of_below {ok : Nat → Prop} {a b : World} (h : Below a.heap.size a b) : Only ok a b := ⟨h.os, h.tape, h.output, h.size, fun i hi _ => h.block i hi⟩
theorem Only.below {ok : Nat → Prop} {a b : World} {base : Nat} (h : Only ok a b) (hk : ∀ k, ok k → base ≤ k) (hb : base ≤ a.heap.size) : Below base a b :=
  ⟨h.os, h.tape, h.output, h.size, fun i hi => h.block i (by omega) (fun ho => by have := hk i ho; omega)⟩
structure DevG (w : World) (base d mb : Nat) (G : ByteArray → Option (Nat × Value)) (S : DevS) : Prop where
  cell : w.heap[d]? = some (.cells #[.map (some mb), .int .i64 S.ops, .int .i64 S.left] dT (0, 0))
  map : MapS Tryd.prog sT w mb (fun s => (G s).map ptrOf) S.count
  file : ∀ s p, G s = some p → ∃ f, S.file s = some f ∧ FileAt w base p.1 p.2 f
  absent : ∀ s, G s = none → S.file s = none
  apart : ∀ s t p q, G s = some p → G t = some q → s ≠ t → p.1 ≠ q.1 ∧ (p.2.ownBlock = none ∨ p.2.ownBlock ≠ q.2.ownBlock)
  bd : base ≤ d
  bm : base ≤ mb
  bf : ∀ s p, G s = some p → base ≤ p.1
def OwnD (d mb : Nat) (G : ByteArray → Option (Nat × Value)) (k : Nat) : Prop := k = d ∨ k = mb ∨ ∃ s p, G s = some p ∧ (k = p.1 ∨ p.2.ownBlock = some k)
section
variable {w w' : World} {base d mb : Nat} {G : ByteArray → Option (Nat × Value)} {S : DevS}
theorem DevG.own_base (h : DevG w base d mb G S) : ∀ k, OwnD d mb G k → base ≤ k := by
  rintro k (rfl | rfl | ⟨s, p, hp, rfl | hk⟩)
  · exact h.bd
  · exact h.bm
  · exact h.bf s p hp
  · obtain ⟨f, _, hf⟩ := h.file s p hp
    exact (hf.2.own k hk).1
theorem DevG.own_lt (h : DevG w base d mb G S) : ∀ k, OwnD d mb G k → k < w.heap.size := by
  rintro k (rfl | rfl | ⟨s, p, hp, rfl | hk⟩)
  · exact (Array.getElem?_eq_some_iff.1 h.cell).1
  · exact h.map.lt
  · obtain ⟨f, _, hf⟩ := h.file s p hp
    exact (Array.getElem?_eq_some_iff.1 hf.1).1
  · obtain ⟨f, _, hf⟩ := h.file s p hp
    exact (hf.2.own k hk).2.1
theorem DevG.same (h : DevG w base d mb G S) (hs : ∀ k, OwnD d mb G k → w'.heap[k]? = w.heap[k]?) : DevG w' base d mb G S := by
  refine ⟨(hs d (Or.inl rfl)).trans h.cell, h.map.same (hs mb (Or.inr (Or.inl rfl))), fun s p hp => ?_, h.absent, h.apart, h.bd, h.bm, h.bf⟩
  obtain ⟨f, h1, h2, h3⟩ := h.file s p hp
  exact ⟨f, h1, (hs p.1 (Or.inr (Or.inr ⟨s, p, hp, Or.inl rfl⟩))).trans h2, h3.same (fun g hg => hs g (Or.inr (Or.inr ⟨s, p, hp, Or.inr hg⟩)))⟩
theorem DevG.below (h : DevG w base d mb G S) (hb : Below w.heap.size w w') : DevG w' base d mb G S := h.same (fun k hk => hb.block k (h.own_lt k hk))
theorem DevG.ne (h : DevG w base d mb G S) : d ≠ mb ∧ ∀ s p, G s = some p → p.1 ≠ d ∧ p.1 ≠ mb ∧ (∀ k, p.2.ownBlock = some k → k ≠ d ∧ k ≠ mb ∧ ∀ t q, G t = some q → q.1 ≠ k) := by
  obtain ⟨es, clock, hm⟩ := h.map.map
  have hc := h.cell
  refine ⟨fun e => (by subst e; rw [hm] at hc; cases hc), fun s p hp => ?_⟩
  obtain ⟨f, _, h2, h3⟩ := h.file s p hp
  refine ⟨fun e => ?_, fun e => ?_, fun k hk => ⟨fun e => ?_, fun e => ?_, fun t q hq e => ?_⟩⟩
  · rw [e, hc] at h2
    have h2 := Option.some.inj h2
    injection h2 with _ h2 _
    exact absurd h2 (by decide)
  · rw [e, hm] at h2; cases h2
  · obtain ⟨_, _, cur, h4⟩ := h3.own k hk
    rw [e, hc] at h4
    have h4 := Option.some.inj h4
    injection h4 with _ h4 _
    exact absurd h4 (by decide)
  · obtain ⟨_, _, cur, h4⟩ := h3.own k hk
    rw [e, hm] at h4; cases h4
  · obtain ⟨_, _, cur, h4⟩ := h3.own k hk
    obtain ⟨f', _, h5, _⟩ := h.file t q hq
    rw [e, h4] at h5
    have h5 := Option.some.inj h5
    injection h5 with _ h5 _
    exact absurd h5 (by decide)
theorem DevG.count (h : DevG w base d mb G S) {o' l' : Int} (hc : w'.heap[d]? = some (.cells #[.map (some mb), .int .i64 o', .int .i64 l'] dT (0, 0))) (hs : ∀ k, k < w.heap.size → k ≠ d → w'.heap[k]? = w.heap[k]?) : DevG w' base d mb G { S with ops := o', left := l' } := by
  obtain ⟨hn1, hn2⟩ := h.ne
  refine ⟨hc, h.map.same (hs mb h.map.lt (Ne.symm hn1)), fun s p hp => ?_, h.absent, h.apart, h.bd, h.bm, h.bf⟩
  obtain ⟨f, h1, h2, h3⟩ := h.file s p hp
  obtain ⟨n1, n2, n3⟩ := hn2 s p hp
  exact ⟨f, h1, (hs p.1 (Array.getElem?_eq_some_iff.1 h2).1 n1).trans h2, h3.same (fun g hg => hs g (h3.own g hg).2.1 (n3 g hg).1)⟩
theorem DevG.upd (h : DevG w base d mb G S) (s : ByteArray) (fb : Nat) (v1 : Value) (f' : FileS) (hc : w'.heap[d]? = w.heap[d]?) (hm : MapS Tryd.prog sT w' mb (fun t => ((fun t => if t = s then some (fb, v1) else G t) t).map ptrOf) (if (S.file s).isSome then S.count else S.count + 1))
    (hf : FileAt w' base fb v1 f') (hs : ∀ k, OwnD d mb G k → k ≠ mb → (∀ p, G s = some p → k ≠ p.1 ∧ p.2.ownBlock ≠ some k) → w'.heap[k]? = w.heap[k]?)
    (hfb : (∃ v, G s = some (fb, v)) ∨ (G s = none ∧ ¬ OwnD d mb G fb)) (hv : ∀ k, v1.ownBlock = some k → (∃ p, G s = some p ∧ p.2.ownBlock = some k) ∨ ¬ OwnD d mb G k) (hb : base ≤ fb) :
    DevG w' base d mb (fun t => if t = s then some (fb, v1) else G t) (S.put s f') := by
  obtain ⟨hn1, hn2⟩ := h.ne
  have hlt : ∀ t p, G t = some p → OwnD d mb G p.1 := fun t p hp => Or.inr (Or.inr ⟨t, p, hp, Or.inl rfl⟩)
  have holt : ∀ t p k, G t = some p → p.2.ownBlock = some k → OwnD d mb G k := fun t p k hp hk => Or.inr (Or.inr ⟨t, p, hp, Or.inr hk⟩)
  -- the other files
  have hoth : ∀ t p, t ≠ s → G t = some p → (∀ q, G s = some q → p.1 ≠ q.1 ∧ q.2.ownBlock ≠ some p.1) ∧ ∀ k, p.2.ownBlock = some k → (∀ q, G s = some q → k ≠ q.1 ∧ q.2.ownBlock ≠ some k) := by
    intro t p ht hp
    refine ⟨fun q hq => ⟨(h.apart t s p q hp hq ht).1, fun e => ?_⟩, fun k hk q hq => ⟨fun e => ?_, fun e => ?_⟩⟩
    · exact ((hn2 s q hq).2.2 _ e).2.2 t p hp rfl
    · exact ((hn2 t p hp).2.2 k hk).2.2 s q hq e.symm
    · rcases (h.apart t s p q hp hq ht).2 with h1 | h1
      · rw [h1] at hk; cases hk
      · exact h1 (hk.trans e.symm)
  refine ⟨?_, hm, fun t p hp => ?_, fun t ht => ?_, fun t u p q hp hq htu => ?_, h.bd, h.bm, fun t p hp => ?_⟩
  · rw [hc]; exact h.cell
  · by_cases ht : t = s
    · subst ht
      rw [if_pos rfl] at hp
      obtain rfl := Option.some.inj hp
      exact ⟨f', by simp [DevS.put], hf⟩
    · rw [if_neg ht] at hp
      obtain ⟨f, h1, h2, h3⟩ := h.file t p hp
      obtain ⟨o1, o2⟩ := hoth t p ht hp
      refine ⟨f, by simp [DevS.put, ht, h1], (hs p.1 (hlt t p hp) (hn2 t p hp).2.1 o1).trans h2, h3.same (fun g hg => hs g (holt t p g hp hg) ((hn2 t p hp).2.2 g hg).2.1 (o2 g hg))⟩
  · by_cases h1 : t = s
    · rw [if_pos h1] at ht; cases ht
    · rw [if_neg h1] at ht
      simp [DevS.put, h1, h.absent t ht]
  · -- two files
    have key : ∀ t q, t ≠ s → G t = some q → fb ≠ q.1 ∧ (v1.ownBlock = none ∨ v1.ownBlock ≠ q.2.ownBlock) := by
      intro t q ht hq
      refine ⟨fun e => ?_, ?_⟩
      · rcases hfb with ⟨v, hv0⟩ | ⟨_, hge⟩
        · exact ((h.apart t s q (fb, v) hq hv0 ht).1) e.symm
        · exact hge (e ▸ hlt t q hq)
      · cases hk : v1.ownBlock with
        | none => exact Or.inl rfl
        | some k =>
          right
          intro e
          rcases hv k hk with ⟨p0, hp0, hk0⟩ | hge
          · rcases (h.apart t s q p0 hq hp0 ht).2 with h1 | h1
            · rw [h1] at e; cases e
            · exact h1 (e.symm.trans hk0.symm)
          · exact hge (holt t q k hq e.symm)
    by_cases h1 : t = s
    · subst h1
      rw [if_pos rfl] at hp
      obtain rfl := Option.some.inj hp
      rw [if_neg (Ne.symm htu)] at hq
      exact key u q (Ne.symm htu) hq
    · rw [if_neg h1] at hp
      by_cases h2 : u = s
      · subst h2
        rw [if_pos rfl] at hq
        obtain rfl := Option.some.inj hq
        obtain ⟨k1, k2⟩ := key t p h1 hp
        refine ⟨Ne.symm k1, ?_⟩
        rcases k2 with k2 | k2
        · cases hk : p.2.ownBlock with
          | none => exact Or.inl rfl
          | some k => right; rw [k2]; simp
        · exact Or.inr (Ne.symm k2)
      · rw [if_neg h2] at hq
        exact h.apart t u p q hp hq htu
  · by_cases h1 : t = s
    · rw [if_pos h1] at hp
      obtain rfl := Option.some.inj hp
      exact hb
    · rw [if_neg h1] at hp
      exact h.bf t p hp
def NewD (n d mb : Nat) (G G' : ByteArray → Option (Nat × Value)) : Prop := ∀ k, OwnD d mb G' k → OwnD d mb G k ∨ n ≤ k
theorem upd_map (s : ByteArray) (fb : Nat) (v1 : Value) : (fun t => ((fun t => if t = s then some (fb, v1) else G t) t).map ptrOf) = putM (fun t => (G t).map ptrOf) s (.pointer (some ⟨fb, 0, none⟩)) := by
  funext t
  unfold putM
  by_cases h : t = s
  · simp [h, ptrOf]
  · simp [h]
theorem upd_kept (s : ByteArray) (fb : Nat) (v v1 : Value) (h : G s = some (fb, v)) : (fun t => ((fun t => if t = s then some (fb, v1) else G t) t).map ptrOf) = (fun t => (G t).map ptrOf) := by
  funext t
  by_cases ht : t = s
  · subst ht; simp [h, ptrOf]
  · simp [ht]
end
end Go.Proofs.YtnmbkaccoaeijaaDoor

/- Small laws for regions whose calls and allocations may come up in several orders. -/
namespace Go.Proofs.YtnmbkaccoaeijaaDoor
open Go.RowKit Go.Proofs.YtnmbkaccoaeijaaDoorW.PrintWords Go.Proofs.YtnmbkaccoaeijaaDoorW.PrintLast
theorem blkLt {W : World} {g : Nat} {o : Obj} (h : W.heap[g]? = some o) : g < W.heap.size := by
  rcases Nat.lt_or_ge g W.heap.size with h1 | h1
  · exact h1
  · rw [Array.getElem?_eq_none h1] at h
    cases h
section
variable {P : Program} {ops : Array Oper} {Q : Exit → Act → World → Prop}
theorem allocs_ {oi : Oper} {N : Option Tmp} {a : Act} {w : World} {z : Array Value} {t : TypeId} {K : Act → World → Prop} (hw : Region.wanted oi (yielded ops a.tmps) = true) (hN : oi.dst = N)
    (hrun : (execOp a.eval oi).run P w = .ok (.value (.pointer (some ⟨w.heap.size, 0, none⟩))) (w.alloc (.cells z t (0, 0))))
    (h : ∀ g w1, g = w.heap.size → w1.heap[g]? = some (.cells z t (0, 0)) → Below w.heap.size w w1 → K (a.put N (.pointer (some ⟨g, 0, none⟩))) w1) :
    if Region.wanted oi (yielded ops a.tmps) = true then Oper.wp P oi a w K Q else K (a.put N undef) w :=
  value_ hw hN hrun (h _ _ rfl (heap_alloc_new w _) (Go.Joins.below_alloc1 w _))
end
end Go.Proofs.YtnmbkaccoaeijaaDoor

/- Whole structs, loaded from anywhere, stored into a block of their own; one cell of such a block stored (the text of XObjW, for a seat without objects). -/
namespace Go.Proofs.YtnmbkaccoaeijaaDoor
open Go.RowKit Go.Proofs.YtnmbkaccoaeijaaDoorW.PrintWords Go.Proofs.YtnmbkaccoaeijaaDoorW.PrintLast
section
variable {P : Program}
def Stopped (p : Prop) : Prop := p
theorem Stopped.go {p : Prop} (h : p) : Stopped p := h
theorem wpList_value {ops : Array Oper} {rest : List Oper} {op : Oper} {a : Act} {w w1 : World} {Q : Exit → Act → World → Prop} (hgd : op.guard = none) (v : Value) (hrun : (execOp a.eval op).run P w = .ok (.value v) w1) (h : wpList P ops Q rest (a.put op.dst v) w1) : wpList P ops Q (op :: rest) a w :=
  wpList_plain hgd fun _ hK => by
    unfold Oper.wp
    rw [hrun]
    exact hK _ _ h
theorem wpList_pure {ops : Array Oper} {rest : List Oper} {op : Oper} {a : Act} {w : World} {Q : Exit → Act → World → Prop} (hgd : op.guard = none) (v : Value) (hrun : (execOp a.eval op).run P w = .ok (.value v) w) (h : wpList P ops Q rest (a.put op.dst v) w) : wpList P ops Q (op :: rest) a w := wpList_value hgd v hrun h
theorem wpList_store1 {ops : Array Oper} {rest : List Oper} {op : Oper} {a : Act} {w : World} {Q : Exit → Act → World → Prop} (hgd : op.guard = none) (ty : TypeId) (x y : Operand) (ho : op.op = .store ty x y) (g i : Nat) (t : TypeId) (old : Array Value) (u : Value)
    (hx : a.eval x = .pointer (some ⟨g, i, none⟩)) (hy : a.eval y = u) (hu : u.cells = #[u]) (hg : w.heap[g]? = some (.cells old t (0, 0))) (hi : i < old.size) (h1 : (P.info? ty).map (·.size) = some 1) (ho1 : u.oneCell' = true)
    (h : ∀ w1 : World, w1.heap[g]? = some (.cells (old.setIfInBounds i u) t (0, 0)) → (∀ k, k ≠ g → w1.heap[k]? = w.heap[k]?) → (∀ B w0, Below B w0 w → B ≤ g → Below B w0 w1) → w1.heap.size = w.heap.size → wpList P ops Q rest (a.put op.dst undef) w1) : wpList P ops Q (op :: rest) a w := by
  have := run_storeVar_mid (P := P) w g i ty #[u] (fun j hj => by
    obtain rfl : j = 0 := by simpa using hj
    rw [Nat.add_zero]
    exact ⟨by rw [cell_of_row w g i old t _ hg, Array.getElem?_eq_getElem hi]; rfl, frozen_of_row w g i old t hg⟩) (by rw [h1]; rfl) (by simp [ho1])
  have h3 : (storeVar ty ⟨g, i, none⟩ u).run P w = .ok () (w.setCell ⟨g, i, none⟩ u) := by
    have e : storeVar ty ⟨g, i, none⟩ u = storeVar ty ⟨g, i, none⟩ (.agg #[u]) := by
      unfold storeVar
      rw [hu]
      rfl
    rw [e, this]
    rfl
  exact wpList_plain hgd fun _ hK => by
    unfold Oper.wp execOp
    simp only [ho, hx, hy, Instr.storeAt, Instr.sureAddr, Sem.run_bind, Sem.run_pure, Result.andThen_ok, h3]
    exact hK _ _ (h _ (heap_setCell_same w g i old t u hg) (fun k hk => heap_setCell_other w ⟨g, i, none⟩ k u hk) (fun B w0 hb hB => hb.setCell hB u) (by simp))
theorem store1_ {ops : Array Oper} {Q : Exit → Act → World → Prop} {oi : Oper} {a : Act} {w : World} {ty : TypeId} {x y : Operand} {g i : Nat} {t : TypeId} {old : Array Value} {u : Value} {K : Act → World → Prop} (hw : Region.wanted oi (yielded ops a.tmps) = true) (hN : oi.dst = none) (ho : oi.op = .store ty x y)
    (hx : a.eval x = .pointer (some ⟨g, i, none⟩)) (hy : a.eval y = u) (hu : u.cells = #[u]) (hg : w.heap[g]? = some (.cells old t (0, 0))) (hi : i < old.size) (h1 : (P.info? ty).map (·.size) = some 1) (ho1 : u.oneCell' = true)
    (h : ∀ w1 : World, w1.heap[g]? = some (.cells (old.setIfInBounds i u) t (0, 0)) → (∀ k, k ≠ g → w1.heap[k]? = w.heap[k]?) → (∀ B w0, Below B w0 w → B ≤ g → Below B w0 w1) → K a w1) :
    if Region.wanted oi (yielded ops a.tmps) = true then Oper.wp P oi a w K Q else K (a.put none undef) w := by
  refine skip_ hw hN (w1 := w.setCell ⟨g, i, none⟩ u) ?_ (h _ (heap_setCell_same w g i old t u hg) (fun k hk => heap_setCell_other w ⟨g, i, none⟩ k u hk) (fun B w0 hb hB => hb.setCell hB u))
  have := run_storeVar_mid (P := P) w g i ty #[u] (fun j hj => by
    obtain rfl : j = 0 := by simpa using hj
    rw [Nat.add_zero]
    exact ⟨by rw [cell_of_row w g i old t _ hg, Array.getElem?_eq_getElem hi]; rfl, frozen_of_row w g i old t hg⟩) (by rw [h1]; rfl) (by simp [ho1])
  have h3 : (storeVar ty ⟨g, i, none⟩ u).run P w = .ok () (w.setCell ⟨g, i, none⟩ u) := by
    have e : storeVar ty ⟨g, i, none⟩ u = storeVar ty ⟨g, i, none⟩ (.agg #[u]) := by
      unfold storeVar
      rw [hu]
      rfl
    rw [e, this]
    rfl
  unfold execOp
  simp [ho, hx, hy, Instr.storeAt, Instr.sureAddr, h3]
end
end Go.Proofs.YtnmbkaccoaeijaaDoor

/- A call of a function value that has caught something, in a plain region. -/
namespace Go.Proofs.YtnmbkaccoaeijaaDoor
open Go.RowKit Go.Proofs.YtnmbkaccoaeijaaDoorW.PrintWords Go.Proofs.YtnmbkaccoaeijaaDoorW.PrintLast
section
variable {P : Program} {ops : Array Oper} {Q : Exit → Act → World → Prop}
theorem goesvL_ {rest : List Oper} {oi : Oper} {a : Act} {w : World} (N : Option Tmp) (hd : oi.dst = N) (hg : oi.guard = none) {f : FuncId} {fn : Func} {x : Operand} {as_ : Array Operand} {ts : Array TypeId} {first cap : Array Value} (hf : P.funcs[f]? = some fn) (hname : (fn.name == "runtime.NumGoroutine") = false) (hb : fn.body.isSome = true) (args : Array Value)
    (hop : oi.op = .call { callee := .value x, args := as_, argTypes := ts }) (hx : a.eval x = .func (.func f) first cap) (hargs : first ++ as_.map a.eval ++ cap = args)
    (h : Calls P f args w fun e w' => ∃ v, e = .returned v ∧ wpList P ops Q rest (a.put N v) w') : wpList P ops Q (oi :: rest) a w := by
  refine wpList_plain hg fun K hK => ?_
  have he := enters_ hf hname hb args w
  have hrun : (execOp a.eval oi).run P w = .ok (.enter f args) w := by
    unfold execOp
    simp [hop, resolve, Deferred.ofValue, invoke, hx, hargs, he]
  unfold Oper.wp
  rw [hrun, Oper.upon_enter]
  refine h.mono fun e w'' hh => ?_
  obtain ⟨v, rfl, hk⟩ := hh
  subst hd
  exact hK _ _ hk
end
end Go.Proofs.YtnmbkaccoaeijaaDoor

/- The device's methods walked: do. -/
namespace Go.Proofs.YtnmbkaccoaeijaaDoor
open Go.RowKit Go.Proofs.YtnmbkaccoaeijaaDoorW.PrintWords Go.Proofs.YtnmbkaccoaeijaaDoorW.PrintLast
def errE (k : Int) : Value := .iface 45 (.int .i64 k)
abbrev devC (mb : Nat) (o l : Int) : Array Value := #[.map (some mb), .int .i64 o, .int .i64 l]
def lessL (l : Int) : Int := if 0 < l then l - 1 else l
theorem infoI1 : (Tryd.prog.info? 3).map (·.size) = some 1 := by kernel_rfl
theorem Only.one {w w1 : World} {d : Nat} (hs : ∀ k, k ≠ d → w1.heap[k]? = w.heap[k]?) (hz : w1.heap.size = w.heap.size) (hb : Below 0 w w1) : Only (fun k => k = d) w w1 := ⟨hb.os, hb.tape, hb.output, Nat.le_of_eq hz.symm, fun k _ hk => hs k hk⟩
set_option maxHeartbeats 2000000 in
set_option maxRecDepth 100000 in
theorem do_calls (d mb : Nat) (o l : Int) (f : FuncId) (fn : Func) (hf : Tryd.prog.funcs[f]? = some fn) (hname : (fn.name == "runtime.NumGoroutine") = false) (hbody : fn.body.isSome = true) (cap : Array Value) (w : World) (hc : w.heap[d]? = some (.cells (devC mb o l) dT (0, 0)))
    (ho : 0 ≤ o ∧ o ≤ 4611686018427387904) (hl : -1 ≤ l ∧ l ≤ 4611686018427387904) (Qp : World → Prop)
    (hop : l ≠ 0 → ∀ w1, w1.heap[d]? = some (.cells (devC mb (o + 1) (lessL l)) dT (0, 0)) → Only (fun k => k = d) w w1 → Calls Tryd.prog f cap w1 fun e w' => (∃ v, e = .returned v) ∧ Qp w') :
    Calls Tryd.prog 21 #[.pointer (some ⟨d, 0, none⟩), .func (.func f) #[] cap] w fun e w' => (l = 0 ∧ e = .returned (errE 30) ∧ w' = w) ∨ (l ≠ 0 ∧ e = .returned .nilIface ∧ Qp w') := by
  have c2 : w.cell? ⟨d, 2, none⟩ = some (.int .i64 l) := (cell_of_row _ _ 2 _ _ _ hc).trans rfl
  by_cases h0 : l = 0
  · subst h0
    go_enter Tryd.func21, Tryd.ntmps21
    go_wp2
    go_ret
    exact Or.inl ⟨by trivial, by trivial, by trivial⟩
  · have g0 : (l == 0) = false := beq_eq_false_iff_ne.2 h0
    have g1 : decide (l = 0) = false := decide_eq_false h0
    have HOP := Lib.hid (hop h0)
    have HX := Lib.hid (And.intro hc (And.intro hf (And.intro hname hbody)))
    clear hop hc hf hname hbody
    by_cases hp : 0 < l
    · have hp1 : decide (0 < l) = true := decide_eq_true hp
      have hle : lessL l = l - 1 := if_pos hp
      rw [hle] at HOP
      go_enter Tryd.func21, Tryd.ntmps21
      go_wp2_with (first
        | ((with_reducible refine wpList_store1 rfl 3 (.tmp 22) (.tmp 20) rfl d 2 dT (devC mb o l) (.int .i64 (l - 1)) ?a1 ?a2 ?a3 ?a4 ?a5 ?a6 ?a7 ?_); (case a1 => rfl); (case a2 => first | rfl | (go_simp; done)); (case a3 => rfl); (case a4 => exact HX.out.1); (case a5 => exact (show 2 < 3 by decide)); (case a6 => exact infoI1); (case a7 => rfl); intro w1 G1 hk1 hb1 hz1; have H1 := Lib.hid (And.intro G1 (And.intro hk1 (And.intro (hb1 0 w (Below.refl _ _) (Nat.zero_le _)) hz1))); have c1 : w1.cell? ⟨d, 1, none⟩ = some (.int .i64 o) := (cell_of_row _ _ 1 _ _ _ G1).trans rfl; clear G1 hk1 hb1 hz1)
        | ((with_reducible refine wpList_store1 rfl 3 (.tmp 29) (.tmp 27) rfl d 1 dT (devC mb o (l - 1)) (.int .i64 (o + 1)) ?b1 ?b2 ?b3 ?b4 ?b5 ?b6 ?b7 ?_); (case b1 => rfl); (case b2 => first | rfl | (go_simp; done)); (case b3 => rfl); (case b4 => exact H1.out.1); (case b5 => exact (show 1 < 3 by decide)); (case b6 => exact infoI1); (case b7 => rfl); intro w2 G2 hk2 hb2 hz2; have H2 := Lib.hid (HOP.out w2 G2 ⟨(hb2 0 w H1.out.2.2.1 (Nat.zero_le _)).os, (hb2 0 w H1.out.2.2.1 (Nat.zero_le _)).tape, (hb2 0 w H1.out.2.2.1 (Nat.zero_le _)).output, by rw [hz2, H1.out.2.2.2]; exact Nat.le_refl _, fun k _ hk => (hk2 k hk).trans (H1.out.2.1 k hk)⟩); clear G2 hk2 hb2 hz2)
        | (refine goesvL_ (some 31) rfl rfl HX.out.2.1 HX.out.2.2.1 HX.out.2.2.2 cap rfl rfl (by simp) ?_; refine H2.out.mono ?_; rintro e w3 ⟨⟨v, rfl⟩, hq⟩; refine ⟨v, rfl, ?_⟩; have HQ := Lib.hid hq; clear hq))
      go_ret
      first | exact Or.inr ⟨h0, by trivial, HQ.out⟩ | exact ⟨by trivial, HQ.out⟩ | exact HQ.out
    · have hp1 : decide (0 < l) = false := decide_eq_false hp
      have hle : lessL l = l := if_neg hp
      rw [hle] at HOP
      have c1 : w.cell? ⟨d, 1, none⟩ = some (.int .i64 o) := (cell_of_row _ _ 1 _ _ _ HX.out.1).trans rfl
      go_enter Tryd.func21, Tryd.ntmps21
      go_wp2_with (first
        | ((with_reducible refine wpList_store1 rfl 3 (.tmp 29) (.tmp 27) rfl d 1 dT (devC mb o l) (.int .i64 (o + 1)) ?b1 ?b2 ?b3 ?b4 ?b5 ?b6 ?b7 ?_); (case b1 => rfl); (case b2 => first | rfl | (go_simp; done)); (case b3 => rfl); (case b4 => exact HX.out.1); (case b5 => exact (show 1 < 3 by decide)); (case b6 => exact infoI1); (case b7 => rfl); intro w2 G2 hk2 hb2 hz2; have H2 := Lib.hid (HOP.out w2 G2 ⟨(hb2 0 w (Below.refl _ _) (Nat.zero_le _)).os, (hb2 0 w (Below.refl _ _) (Nat.zero_le _)).tape, (hb2 0 w (Below.refl _ _) (Nat.zero_le _)).output, by rw [hz2]; exact Nat.le_refl _, fun k _ hk => hk2 k hk⟩); clear G2 hk2 hb2 hz2)
        | (refine goesvL_ (some 31) rfl rfl HX.out.2.1 HX.out.2.2.1 HX.out.2.2.2 cap rfl rfl (by simp) ?_; refine H2.out.mono ?_; rintro e w3 ⟨⟨v, rfl⟩, hq⟩; refine ⟨v, rfl, ?_⟩; have HQ := Lib.hid hq; clear hq))
      go_ret
      first | exact Or.inr ⟨h0, by trivial, HQ.out⟩ | exact ⟨by trivial, HQ.out⟩ | exact HQ.out
end Go.Proofs.YtnmbkaccoaeijaaDoor

/- The device's methods walked: what Append's closure does. -/
namespace Go.Proofs.YtnmbkaccoaeijaaDoor
open Go.RowKit Go.Proofs.YtnmbkaccoaeijaaDoorW.PrintWords Go.Proofs.YtnmbkaccoaeijaaDoorW.PrintLast
def rg22_0_T : Bool × List (List Nat × List Nat) := (true, [([], []), ([], []), ([1], [1]), ([2], [2]), ([3], [3]), ([], []), ([4, 5], [4, 5]), ([0, 0, 1, 2, 3, 4, 5, 6], [0]), ([7, 0, 1, 2, 3, 4, 5, 6], [7]), ([8, 6, 6, 0, 1, 2, 3, 4, 5, 6], [6, 8])])
def rg22_0_B : List Nat := [0, 0, 2, 6, 14, 0, 62, 127, 255, 511]
theorem rg22_0_tab : rtab .any (opsOf Tryd.f22 0) = rg22_0_T := by kernel_rfl
theorem rg22_0_bits : waitsOk rg22_0_T.2 rg22_0_B = true := by kernel_rfl
def rg22_1_T : Bool × List (List Nat × List Nat) := (true, [([], []), ([0], [0]), ([1], [1]), ([2], [2]), ([], []), ([], []), ([3, 4, 5, 0, 1, 2, 3, 4, 5], [3, 4, 5])])
def rg22_1_B : List Nat := [0, 1, 3, 7, 0, 0, 63]
theorem rg22_1_tab : rtab .any (opsOf Tryd.f22 1) = rg22_1_T := by kernel_rfl
theorem rg22_1_bits : waitsOk rg22_1_T.2 rg22_1_B = true := by kernel_rfl
theorem cell_only {ok : Nat → Prop} {w w' : World} (h : Only ok w w') {a : Addr} (hl : a.block < w.heap.size) (hn : ¬ ok a.block) : w'.cell? a = w.cell? a := by
  unfold World.cell?
  rw [h.block a.block hl hn]
theorem add_block (a : Addr) (j : Nat) : (a.add j).block = a.block := by unfold Addr.add; split <;> rfl
def ReadB (w : World) (own : Nat → Prop) (bv : Value) (news : List Int) : Prop :=
  (bv = .slice none 0 0 ∧ news = []) ∨ ∃ a c, bv = .slice (some a) news.length c ∧ (0 < news.length → ¬ own a.block ∧ a.block < w.heap.size) ∧ ∀ j u, (news.map bc)[j]? = some u → w.cell? (a.add j) = some u
theorem news_pos {news : List Int} {j : Nat} {u : Value} (h : (news.map bc)[j]? = some u) : 0 < news.length := by
  have := (List.getElem?_eq_some_iff.1 h).1
  rw [List.length_map] at this
  omega
theorem ReadB.only {own : Nat → Prop} {w w' : World} {bv : Value} {news : List Int} (h : ReadB w own bv news) (k : Only own w w') : ReadB w' own bv news := by
  rcases h with h | ⟨a, c, rfl, h1, h3⟩
  · exact Or.inl h
  · exact Or.inr ⟨a, c, rfl, fun e => ⟨(h1 e).1, Nat.lt_of_lt_of_le (h1 e).2 k.size⟩, fun j u hu => (cell_only k (by rw [add_block]; exact (h1 (news_pos hu)).2) (by rw [add_block]; exact (h1 (news_pos hu)).1)).trans (h3 j u hu)⟩
theorem ReadB.mono {own own' : Nat → Prop} {w : World} {bv : Value} {news : List Int} (h : ReadB w own bv news) (k : ∀ i, i < w.heap.size → own' i → own i) : ReadB w own' bv news := by
  rcases h with h | ⟨a, c, rfl, h1, h3⟩
  · exact Or.inl h
  · exact Or.inr ⟨a, c, rfl, fun e => ⟨fun e1 => (h1 e).1 (k _ (h1 e).2 e1), (h1 e).2⟩, h3⟩
theorem infoU8 : (Tryd.prog.info? bT).map (fun i => (i.zero, i.size, i.bytes)) = some (some (.int .u8 0), 1, 1) := by kernel_rfl
theorem append_read {own : Nat → Prop} {w : World} {base : Nat} {v bv : Value} {bs news : List Int} (ty : TypeId) (h : BytesAt bT w base v bs) (hR : ReadB w own bv news) (hlim : bs.length + news.length ≤ 70368744177664) (hbase : base ≤ w.heap.size) :
    ∃ v' w', (Builtin.append_ #[28, 28] ty #[v, bv]).run Tryd.prog w = .ok v' w' ∧ BytesAt bT w' base v' (bs ++ news) ∧ w.grownBy w' v.ownBlock ∧ (v'.ownBlock = v.ownBlock ∨ v'.ownBlock = some w.heap.size) := by
  obtain ⟨i, h1, hh⟩ := Option.map_eq_some_iff.1 infoU8
  simp only [Prod.mk.injEq] at hh
  obtain ⟨h2, h3, h4⟩ := hh
  rcases hR with ⟨rfl, rfl⟩ | ⟨a, c, rfl, _, hc⟩
  · exact ⟨v, w, append_none _ ty i Tryd.underlying28 h1 h3 h 0, by rw [List.append_nil]; exact h, ⟨rfl, rfl, rfl, Nat.le_refl _, fun _ _ _ => rfl⟩, Or.inl rfl⟩
  · exact append_bytes _ ty i Tryd.underlying28 h1 h2 h3 h4 h a _ c news rfl hc hlim hbase
section
variable {P : Program} {ops : Array Oper} {Q : Exit → Act → World → Prop}
theorem appB_ {oi : Oper} {N : Option Tmp} {a : Act} {w w1 : World} {v' : Value} {K : Act → World → Prop} (hw : Region.wanted oi (yielded ops a.tmps) = true) (hN : oi.dst = N) (x y : Operand) (t : TypeId) (ho : oi.op = .call { callee := .builtin .append, args := #[x, y], argTypes := #[t, t] }) (v bv : Value) (hx : a.eval x = v) (hy : a.eval y = bv)
    (hrun : (Builtin.append_ #[t, t] oi.type #[v, bv]).run P w = .ok v' w1) (h : K (a.put N v') w1) : if Region.wanted oi (yielded ops a.tmps) = true then Oper.wp P oi a w K Q else K (a.put N undef) w :=
  value_ hw hN (by
    unfold execOp
    simp [ho, resolve, invoke, builtin, hx, hy, hrun, Result.andThen]) h
theorem mapU_ {oi : Oper} {a : Act} {w : World} {K : Act → World → Prop} {sT : TypeId} (hw : Region.wanted oi (yielded ops a.tmps) = true) (hN : oi.dst = none) (m x v : Operand) (t : TypeId) (hop : oi.op = Op.mapUpdate t m x v) (e : TypeId) (hs : P.underlying sT = some .string) (ht : P.underlying t = some (.map sT e))
    (b : Nat) (M : ByteArray → Option Value) (c : Nat) (hm : a.eval m = .map (some b)) (h : MapS P sT w b M c) (s : ByteArray) (hx : a.eval x = .string s) (hl : s.size ≤ maxLen) (val : Value) (hv : a.eval v = val) (hc : c + 1 < maxLen)
    (hK : ∀ w', MapS P sT w' b (putM M s val) (if (M s).isSome then c else c + 1) → w.mapTurned w' b → K a w') : if Region.wanted oi (yielded ops a.tmps) = true then Oper.wp P oi a w K Q else K (a.put none undef) w := by
  obtain ⟨w', hrun, r1, r2⟩ := h.store hs ht hl val hc
  exact skip_ hw hN (by
    unfold execOp
    simp [hop, hm, hx, hv, hrun, Result.andThen]) (hK w' r1 r2)
end
theorem Only.grown {w w' : World} {row : Option Nat} (h : w.grownBy w' row) : Only (fun k => some k = row) w w' := ⟨h.os, h.tape, h.output, h.size, fun k hk hn => h.block k hk hn⟩
theorem Only.map {w w' : World} {b : Nat} (h : w.mapTurned w' b) : Only (fun k => k = b) w w' := by
  exact (Only.grown h.grown).mono (fun k _ e => Option.some.inj e)
theorem DevG.filed {w w1 w2 w3 : World} {base d mb fb : Nat} {G : ByteArray → Option (Nat × Value)} {S : DevS} {s : ByteArray} {v v' : Value} {f : FileS} {bs : List Int} {sy : Int} (hD : DevG w base d mb G S) (hf : FileAt w base fb v f) (hcase : (G s = some (fb, v) ∧ S.file s = some f) ∨ (G s = none ∧ ¬ OwnD d mb G fb ∧ base ≤ fb ∧ v.ownBlock = none))
    (hg1 : w.grownBy w1 v.ownBlock) (hB1 : BytesAt bT w1 base v' bs) (ho1 : v'.ownBlock = v.ownBlock ∨ v'.ownBlock = some w.heap.size) (h2 : w2.heap[fb]? = some (.cells #[v', .int .i64 sy] fT (0, 0))) (hk2 : ∀ k, k ≠ fb → w2.heap[k]? = w1.heap[k]?) (hb2 : ∀ B w0, Below B w0 w1 → B ≤ fb → Below B w0 w2)
    (M3 : MapS Tryd.prog sT w3 mb (putM (fun t => (G t).map ptrOf) s (.pointer (some ⟨fb, 0, none⟩))) (if ((G s).map ptrOf).isSome then S.count else S.count + 1)) (ht3 : w2.grownBy w3 (some mb)) :
    DevG w3 base d mb (fun t => if t = s then some (fb, v') else G t) (S.put s ⟨bs, sy⟩) ∧ Only (fun k => OwnD d mb G k ∨ k = fb) w w3 := by
  have hok : ∀ k, k < w.heap.size → k ≠ fb → k ≠ mb → some k ≠ v.ownBlock → w3.heap[k]? = w.heap[k]? := fun k h h1 h2 h3 => by
    have hs2 : w2.heap.size = w2.heap.size := rfl
    have a1 : w3.heap[k]? = w2.heap[k]? := by
      rcases Nat.lt_or_ge k w2.heap.size with h4 | h4
      · exact ht3.block k h4 (fun e => h2 (Option.some.inj e))
      · have := (hb2 0 w1 (Below.refl _ _) (Nat.zero_le _)).size
        have := hg1.size
        omega
    exact a1.trans ((hk2 k h1).trans (hg1.block k h h3))
  obtain ⟨es, cl, hmm⟩ := hD.map.map
  have hfm : fb ≠ mb := fun e => by
    have h1 := hf.1
    rw [e, hmm] at h1
    cases h1
  have hfd : fb ≠ d := fun e => by
    have h1 := hf.1
    rw [e, hD.cell] at h1
    injection h1 with h1
    injection h1 with _ h1
    exact absurd h1 (by decide)
  have hvn : ∀ k, v.ownBlock = some k → k ≠ d ∧ k ≠ mb ∧ k ≠ fb := fun k hk => by
    obtain ⟨_, _, cur, h4⟩ := hf.2.own k hk
    refine ⟨fun e => ?_, fun e => ?_, fun e => ?_⟩
    · rw [e, hD.cell] at h4
      injection h4 with h4
      injection h4 with _ h4
      exact absurd h4 (by decide)
    · rw [e, hmm] at h4
      cases h4
    · rw [e, hf.1] at h4
      injection h4 with h4
      injection h4 with _ h4
      exact absurd h4 (by decide)
  have hflt : fb < w.heap.size := (Array.getElem?_eq_some_iff.1 hf.1).1
  have hs12 : w1.heap.size ≤ w2.heap.size := (hb2 0 w1 (Below.refl _ _) (Nat.zero_le _)).size
  have hlt' : ∀ k, v'.ownBlock = some k → k < w2.heap.size := fun k hk => Nat.lt_of_lt_of_le (hB1.own k hk).2.1 hs12
  have hcnt : (if ((G s).map ptrOf).isSome then S.count else S.count + 1) = (if (S.file s).isSome then S.count else S.count + 1) := by
    rcases hcase with ⟨h1, h2⟩ | ⟨h1, _⟩
    · rw [h1, h2]; rfl
    · rw [h1, hD.absent s h1]; rfl
  refine ⟨hD.upd s fb v' ⟨bs, sy⟩ (hok d (hD.own_lt d (Or.inl rfl)) (Ne.symm hfd) hD.ne.1 (fun e => (hvn d e.symm).1 rfl)) (by rw [upd_map, ← hcnt]; exact M3) ⟨?_, ?_⟩ (fun k hk hkm hkp => ?_) ?_ ?_ ?_, ?_⟩
  · exact (ht3.block fb (Array.getElem?_eq_some_iff.1 h2).1 (fun e => hfm (Option.some.inj e))).trans h2
  · refine hB1.same (fun g hg => ?_)
    have hgf : g ≠ fb := fun e => by
      rcases ho1 with h1 | h1
      · rw [h1] at hg
        exact (hvn g hg).2.2 e
      · rw [h1] at hg
        injection hg with hg
        omega
    have hgm : g ≠ mb := fun e => by
      rcases ho1 with h1 | h1
      · rw [h1] at hg
        exact (hvn g hg).2.1 e
      · rw [h1] at hg
        injection hg with hg
        have := hD.map.lt
        omega
    exact (ht3.block g (hlt' g hg) (fun e => hgm (Option.some.inj e))).trans (hk2 g hgf)
  · rcases hcase with ⟨h1, _⟩ | ⟨h1, h3, _, h4⟩
    · exact hok k (hD.own_lt k hk) (hkp _ h1).1 hkm (fun e => (hkp _ h1).2 e.symm)
    · exact hok k (hD.own_lt k hk) (fun e => h3 (e ▸ hk)) hkm (fun e => by rw [h4] at e; cases e)
  · rcases hcase with ⟨h1, _⟩ | ⟨h1, h3, _, h4⟩
    · exact Or.inl ⟨v, h1⟩
    · exact Or.inr ⟨h1, h3⟩
  · intro k hk
    rcases ho1 with h1 | h1
    · rw [h1] at hk
      rcases hcase with ⟨h5, _⟩ | ⟨_, _, _, h4⟩
      · exact Or.inl ⟨_, h5, hk⟩
      · rw [h4] at hk; cases hk
    · rw [h1] at hk
      injection hk with hk
      refine Or.inr (fun h => ?_)
      have := hD.own_lt k h
      omega
  · rcases hcase with ⟨h1, _⟩ | ⟨_, _, h3, _⟩
    · exact hD.bf _ _ h1
    · exact h3
  · have o1 : Only (fun k => OwnD d mb G k ∨ k = fb) w w1 := (Only.grown hg1).mono (fun k _ e => by
      rcases hcase with ⟨h1, _⟩ | ⟨_, _, _, h4⟩
      · exact Or.inl (Or.inr (Or.inr ⟨s, _, h1, Or.inr e.symm⟩))
      · rw [h4] at e; cases e)
    have hB := hb2 0 w1 (Below.refl _ _) (Nat.zero_le _)
    have o2 : Only (fun k => OwnD d mb G k ∨ k = fb) w1 w2 := ⟨hB.os, hB.tape, hB.output, hB.size, fun k _ hn => hk2 k (fun e => hn (Or.inr e))⟩
    exact (o1.trans o2).trans ((Only.grown ht3).mono (fun k _ e => Or.inl (Or.inr (Or.inl (Option.some.inj e)))))
set_option maxHeartbeats 2000000 in
set_option maxRecDepth 100000 in
theorem append1_calls (w : World) (base d mb fv bx dx nx fb : Nat) (G : ByteArray → Option (Nat × Value)) (S : DevS) (s : ByteArray) (v bv : Value) (f : FileS) (news : List Int) (own : Nat → Prop)
    (hD : DevG w base d mb G S) (hfv : w.heap[fv]? = some (.cells #[.pointer (some ⟨fb, 0, none⟩)] 46 (0, 0))) (hbx : w.heap[bx]? = some (.cells #[bv] 28 (0, 0))) (hdx : w.heap[dx]? = some (.cells #[.pointer (some ⟨d, 0, none⟩)] 22 (0, 0))) (hnx : w.heap[nx]? = some (.cells #[.string s] 9 (0, 0)))
    (hf : FileAt w base fb v f) (hcase : (G s = some (fb, v) ∧ S.file s = some f) ∨ (G s = none ∧ ¬ OwnD d mb G fb ∧ base ≤ fb ∧ v.ownBlock = none))
    (hR : ReadB w own bv news) (hlim : f.bytes.length + news.length ≤ 262144) (hcnt : S.count ≤ 64) (hs : s.size ≤ 40) (hbase : base ≤ w.heap.size) :
    Calls Tryd.prog 22 #[.pointer (some ⟨fv, 0, none⟩), .pointer (some ⟨bx, 0, none⟩), .pointer (some ⟨dx, 0, none⟩), .pointer (some ⟨nx, 0, none⟩)] w fun e w' => (∃ v, e = .returned v) ∧
      ∃ v', DevG w' base d mb (fun t => if t = s then some (fb, v') else G t) (S.put s ⟨f.bytes ++ news, f.synced⟩) ∧ Only (fun k => OwnD d mb G k ∨ k = fb) w w' ∧ (v'.ownBlock = v.ownBlock ∨ v'.ownBlock = some w.heap.size) := by
  have E1 : w.drew.cell? ⟨fv, 0, none⟩ = some (.pointer (some ⟨fb, 0, none⟩)) := (cell_of_row _ _ 0 _ _ _ hfv).trans rfl
  have E2 : w.drew.cell? ⟨fb, 0, none⟩ = some v := (cell_of_row _ _ 0 _ _ _ hf.1).trans rfl
  have E3 : w.drew.cell? ⟨bx, 0, none⟩ = some bv := (cell_of_row _ _ 0 _ _ _ hbx).trans rfl
  obtain ⟨v', w1, hrun, hB1, hg1, ho1⟩ := append_read (own := own) (w := w.drew) 28 (BytesAt.same (w' := w.drew) hf.2 (fun _ _ => rfl)) (hR.only (w' := w.drew) ⟨rfl, rfl, rfl, Nat.le_refl _, fun _ _ _ => rfl⟩) (by omega) hbase
  have HR := Lib.hid hrun
  have F1 : w1.heap[fb]? = some (.cells #[v, .int .i64 f.synced] fT (0, 0)) := (hg1.block fb (Array.getElem?_eq_some_iff.1 hf.1).1 (fun e => by
    obtain ⟨_, _, cur, h4⟩ := hf.2.own fb e.symm
    have h5 := h4.symm.trans hf.1
    injection h5 with h5
    injection h5 with _ h5
    exact absurd h5 (by decide))).trans hf.1
  have HF1 := Lib.hid F1
  have hne : ∀ (k : Nat) (t : TypeId) (cs : Array Value), w.heap[k]? = some (Obj.cells cs t (0, 0)) → (t == bT) = false → w1.heap[k]? = some (Obj.cells cs t (0, 0)) := fun k t cs hk ht => (hg1.block k (Array.getElem?_eq_some_iff.1 hk).1 (fun e => by
    obtain ⟨_, _, cur, h4⟩ := hf.2.own k e.symm
    have h5 := h4.symm.trans hk
    injection h5 with h5
    injection h5 with _ h5
    rw [← h5] at ht
    exact absurd ht (by decide))).trans hk
  have hfv1 := hne _ _ _ hfv rfl
  have hbx1 := hne _ _ _ hbx rfl
  have hdx1 := hne _ _ _ hdx rfl
  have hnx1 := hne _ _ _ hnx rfl
  have hd1 := hne _ _ _ hD.cell rfl
  have HE1 : Hid (w1.cell? ⟨fv, 0, none⟩ = some (.pointer (some ⟨fb, 0, none⟩)) ∧ w1.cell? ⟨fb, 0, none⟩ = some v ∧ w1.cell? ⟨bx, 0, none⟩ = some bv) := Lib.hid ⟨(cell_of_row _ _ 0 _ _ _ hfv1).trans rfl, (cell_of_row _ _ 0 _ _ _ F1).trans rfl, (cell_of_row _ _ 0 _ _ _ hbx1).trans rfl⟩
  have V1 : v'.cells = #[v'] ∧ v'.oneCell' = true := by
    obtain ⟨A, c, rfl, _⟩ := hB1.form
    exact ⟨rfl, rfl⟩
  go_enter Tryd.func22, Tryd.ntmps22
  go_upto_region 0 with (fail)
  refine start_ (n := 10) (S := fun w' => w'.cell? ⟨fv, 0, none⟩ = some (.pointer (some ⟨fb, 0, none⟩)) ∧ w'.cell? ⟨fb, 0, none⟩ = some v ∧ w'.cell? ⟨bx, 0, none⟩ = some bv) (ds := [9]) (bs 10 0) (by kernel_rfl) rfl (by kernel_rfl) ⟨E1, E2, E3⟩ (fun hHeld => ?_)
  refine with_tabW rg22_0_tab rg22_0_bits (fun HT_ HW_ => ?_)
  refine tk 0 (some 4) (bs 10 1) HT_ HW_ rfl rfl (by kernel_rfl) (fun _ _ _ _ h => h) hHeld ⟨_, .inl ⟨by rfl, by rintro w' ⟨s0, s1, s2⟩; go_simp; with_reducible rfl⟩, _, by simp only [Act.put, sA, sB, sC, i64_w, i32_w]; rfl, ?_⟩
  refine tk 1 (some 5) (bs 10 3) HT_ HW_ rfl rfl (by kernel_rfl) (fun _ _ _ _ h => h) hHeld ⟨_, .inl ⟨by rfl, by rintro w' ⟨s0, s1, s2⟩; go_simp; with_reducible rfl⟩, _, by simp only [Act.put, sA, sB, sC, i64_w, i32_w]; rfl, ?_⟩
  refine pu 2 (some 6) (bs 10 7) HT_ rfl rfl (by kernel_rfl) (fun _ _ _ _ h => h) ⟨_, .inl ⟨by rfl, fun _ => by go_simp; with_reducible rfl⟩, _, by simp only [Act.put, sA, sB, sC, i64_w, i32_w]; rfl, ?_⟩
  refine pu 3 (some 7) (bs 10 15) HT_ rfl rfl (by kernel_rfl) (fun _ _ _ _ h => h) ⟨_, .inl ⟨by rfl, fun _ => by go_simp; with_reducible rfl⟩, _, by simp only [Act.put, sA, sB, sC, i64_w, i32_w]; rfl, ?_⟩
  refine tk 4 (some 8) (bs 10 31) HT_ HW_ rfl rfl (by kernel_rfl) (fun _ _ _ _ h => h) hHeld ⟨_, .inl ⟨by rfl, by rintro w' ⟨s0, s1, s2⟩; go_simp; with_reducible rfl⟩, _, by simp only [Act.put, sA, sB, sC, i64_w, i32_w]; rfl, ?_⟩
  refine tk 5 (some 9) (bs 10 63) HT_ HW_ rfl rfl (by kernel_rfl) (fun _ _ _ _ h => h) hHeld ⟨_, .inl ⟨by rfl, by rintro w' ⟨s0, s1, s2⟩; go_simp; with_reducible rfl⟩, _, by simp only [Act.put, sA, sB, sC, i64_w, i32_w]; rfl, ?_⟩
  refine on1 6 (some 10) (bs 10 127) HT_ rfl rfl (by kernel_rfl) (by decide) (fun K hK => ?_)
  refine appB_ (w1 := w1) (v' := v') (by rfl) rfl (.tmp 8) (.tmp 9) 28 rfl v bv rfl rfl HR.out ?_
  refine hK.out _ _ ⟨HE1.out.1, HE1.out.2.1, HE1.out.2.2⟩ (fun hHeld => ?_)
  clear hK K
  refine nm ⟨_, show Act.put _ (some 10) _ = _ by simp only [Act.put, sA, sB, sC, i64_w, i32_w]; rfl, ?_⟩
  refine pu 7 (some 11) (bs 10 255) HT_ rfl rfl (by kernel_rfl) (fun _ _ _ _ h => h) ⟨_, .inl ⟨by rfl, fun _ => by go_simp; with_reducible rfl⟩, _, by simp only [Act.put, sA, sB, sC, i64_w, i32_w]; rfl, ?_⟩
  refine pu 8 (some 12) (bs 10 511) HT_ rfl rfl (by kernel_rfl) (fun _ _ _ _ h => h) ⟨_, .inl ⟨by rfl, fun _ => by go_simp; with_reducible rfl⟩, _, by simp only [Act.put, sA, sB, sC, i64_w, i32_w]; rfl, ?_⟩
  refine la1 9 (none) (bs 10 1023) HT_ rfl rfl (by kernel_rfl) (by decide) (fun K hK => ?_)
  refine store1_ (g := fb) (i := 0) (x := .tmp 12) (y := .tmp 10) (u := v') (by rfl) rfl rfl rfl rfl V1.1 HF1.out (show 0 < 2 by decide) (by kernel_rfl) V1.2 ?_
  intro w2 G2 hk2 hb2
  refine hK.out _ _ ?_
  clear hK K
  refine done_ (done_of HT_.out (by kernel_rfl)) ?_
  have hw2 : ∀ (k : Nat) (t : TypeId) (cs : Array Value), w.heap[k]? = some (Obj.cells cs t (0, 0)) → (t == bT) = false → (t == fT) = false → w2.heap[k]? = some (Obj.cells cs t (0, 0)) := fun k t cs hk ht1 ht2 => (hk2 k (fun e => by
    rw [e, hf.1] at hk
    injection hk with h5
    injection h5 with _ h5
    rw [← h5] at ht2
    exact absurd ht2 (by decide))).trans (hne k t cs hk ht1)
  obtain ⟨hdm, hn2⟩ := hD.ne
  obtain ⟨es0, cl0, hm0⟩ := hD.map.map
  have hfb : fb ≠ mb := fun e => by
    have h1 := hf.1
    rw [e, hm0] at h1
    cases h1
  have hmb1 : w1.heap[mb]? = w.heap[mb]? := hg1.block mb hD.map.lt (fun e => by
    obtain ⟨_, _, cur, h4⟩ := hf.2.own mb e.symm
    rw [hm0] at h4
    cases h4)
  have hmb2 : w2.heap[mb]? = w.heap[mb]? := (hk2 mb (Ne.symm hfb)).trans hmb1
  have M2 := Lib.hid (hD.map.same (w' := w2.drew) hmb2)
  have E5 : w2.drew.cell? ⟨dx, 0, none⟩ = some (.pointer (some ⟨d, 0, none⟩)) := (cell_of_row _ _ 0 _ _ _ (hw2 _ _ _ hdx rfl rfl)).trans rfl
  have E6 : w2.drew.cell? ⟨d, 0, none⟩ = some (.map (some mb)) := (cell_of_row _ _ 0 _ _ _ (hw2 _ _ _ hD.cell rfl rfl)).trans rfl
  have E7 : w2.drew.cell? ⟨nx, 0, none⟩ = some (.string s) := (cell_of_row _ _ 0 _ _ _ (hw2 _ _ _ hnx rfl rfl)).trans rfl
  have E8 : w2.drew.cell? ⟨fv, 0, none⟩ = some (.pointer (some ⟨fb, 0, none⟩)) := (cell_of_row _ _ 0 _ _ _ (hw2 _ _ _ hfv rfl rfl)).trans rfl
  go_upto_region 1 with (fail)
  refine start_ (n := 7) (S := fun w' => w'.cell? ⟨dx, 0, none⟩ = some (.pointer (some ⟨d, 0, none⟩)) ∧ w'.cell? ⟨d, 0, none⟩ = some (.map (some mb)) ∧ w'.cell? ⟨nx, 0, none⟩ = some (.string s) ∧ w'.cell? ⟨fv, 0, none⟩ = some (.pointer (some ⟨fb, 0, none⟩))) (ds := [6]) (bs 7 0) (by kernel_rfl) rfl (by kernel_rfl) ⟨E5, E6, E7, E8⟩ (fun hHeld => ?_)
  refine with_tabW rg22_1_tab rg22_1_bits (fun HT_ HW_ => ?_)
  refine tk 0 (some 13) (bs 7 1) HT_ HW_ rfl rfl (by kernel_rfl) (fun _ _ _ _ h => h) hHeld ⟨_, .inl ⟨by rfl, by rintro w' ⟨s0, s1, s2, s3⟩; go_simp; with_reducible rfl⟩, _, by simp only [Act.put, sA, sB, sC, i64_w, i32_w]; rfl, ?_⟩
  refine pu 1 (some 14) (bs 7 3) HT_ rfl rfl (by kernel_rfl) (fun _ _ _ _ h => h) ⟨_, .inl ⟨by rfl, fun _ => by go_simp; with_reducible rfl⟩, _, by simp only [Act.put, sA, sB, sC, i64_w, i32_w]; rfl, ?_⟩
  refine pu 2 (some 15) (bs 7 7) HT_ rfl rfl (by kernel_rfl) (fun _ _ _ _ h => h) ⟨_, .inl ⟨by rfl, fun _ => by go_simp; with_reducible rfl⟩, _, by simp only [Act.put, sA, sB, sC, i64_w, i32_w]; rfl, ?_⟩
  refine tk 3 (some 16) (bs 7 15) HT_ HW_ rfl rfl (by kernel_rfl) (fun _ _ _ _ h => h) hHeld ⟨_, .inl ⟨by rfl, by rintro w' ⟨s0, s1, s2, s3⟩; go_simp; with_reducible rfl⟩, _, by simp only [Act.put, sA, sB, sC, i64_w, i32_w]; rfl, ?_⟩
  refine tk 4 (some 17) (bs 7 31) HT_ HW_ rfl rfl (by kernel_rfl) (fun _ _ _ _ h => h) hHeld ⟨_, .inl ⟨by rfl, by rintro w' ⟨s0, s1, s2, s3⟩; go_simp; with_reducible rfl⟩, _, by simp only [Act.put, sA, sB, sC, i64_w, i32_w]; rfl, ?_⟩
  refine tk 5 (some 18) (bs 7 63) HT_ HW_ rfl rfl (by kernel_rfl) (fun _ _ _ _ h => h) hHeld ⟨_, .inl ⟨by rfl, by rintro w' ⟨s0, s1, s2, s3⟩; go_simp; with_reducible rfl⟩, _, by simp only [Act.put, sA, sB, sC, i64_w, i32_w]; rfl, ?_⟩
  refine la1 6 (none) (bs 7 127) HT_ rfl rfl (by kernel_rfl) (by decide) (fun K hK => ?_)
  refine mapU_ (sT := 9) (by rfl) rfl (.tmp 16) (.tmp 17) (.tmp 18) 40 rfl 46 Tryd.underlying9 Tryd.underlying40 mb _ _ rfl M2.out s rfl (Nat.le_trans hs (by decide)) (.pointer (some ⟨fb, 0, none⟩)) rfl (by unfold maxLen; omega) ?_
  intro w3 M3 ht3
  refine hK.out _ _ ?_
  clear hK K
  refine done_ (done_of HT_.out (by kernel_rfl)) ?_
  have HE := DevG.filed (w := w) (v := v) (v' := v') (sy := f.synced) (f := f) (w2 := w2) (bs := f.bytes ++ news) hD hf hcase ⟨hg1.os, hg1.tape, hg1.output, hg1.size, hg1.block⟩ hB1 ho1 G2 hk2 hb2 M3 ⟨ht3.grown.os, ht3.grown.tape, ht3.grown.output, ht3.grown.size, ht3.grown.block⟩
  exact ⟨rfl, .tuple #[], by simp [results, Tryd.results22], ⟨_, rfl⟩, v', HE.1, HE.2, ho1⟩
end Go.Proofs.YtnmbkaccoaeijaaDoor

/- The device's methods walked: named, Append. -/
namespace Go.Proofs.YtnmbkaccoaeijaaDoor
open Go.RowKit Go.Proofs.YtnmbkaccoaeijaaDoorW.PrintWords Go.Proofs.YtnmbkaccoaeijaaDoorW.PrintLast
def nameOk (s : ByteArray) : Bool := decide (1 ≤ s.size ∧ s.size ≤ 40)
set_option maxHeartbeats 2000000 in
set_option maxRecDepth 100000 in
theorem named_calls (s : ByteArray) (w : World) : Calls Tryd.prog 20 #[.string s] w fun e w' => e = .returned (.bool (nameOk s)) ∧ w' = w := by
  by_cases h1 : 1 ≤ s.size
  · have e1 : decide ((1 : Int) ≤ (s.size : Int)) = true := decide_eq_true (by omega)
    have e3 : nameOk s = decide ((s.size : Int) ≤ 40) := by
      unfold nameOk
      exact decide_eq_decide.2 (by omega)
    go_enter Tryd.func20, Tryd.ntmps20
    go_wp2
    go_ret
    exact ⟨by rw [e3]; rfl, by trivial⟩
  · have e1 : decide ((1 : Int) ≤ (s.size : Int)) = false := decide_eq_false (by omega)
    have e3 : nameOk s = false := decide_eq_false (by omega)
    go_enter Tryd.func20, Tryd.ntmps20
    go_wp2
    go_ret
    exact ⟨by rw [e3]; rfl, by trivial⟩
theorem cell_below {W w1 : World} (h : Below W.heap.size W w1) {a : Addr} {v : Value} (hc : W.cell? a = some v) : w1.cell? a = some v := (h.cell (World.block_lt_of_cell? W _ hc)).trans hc
def errV (k : Int) : Value := if k = 0 then .nilIface else errE k
structure Fine (S : DevS) : Prop where
  count : S.count ≤ 64
  file : ∀ s f, S.file s = some f → f.bytes.length ≤ 262144 ∧ 0 ≤ f.synced ∧ f.synced ≤ f.bytes.length
  ops : 0 ≤ S.ops ∧ S.ops ≤ 4611686018427387904
  left : -1 ≤ S.left ∧ S.left ≤ 4611686018427387904
def DevS.step (S : DevS) : DevS := { S with ops := S.ops + 1, left := lessL S.left }
def DevS.got (S : DevS) (s : ByteArray) : FileS := (S.file s).getD ⟨[], 0⟩
def DevS.isFull (S : DevS) (s : ByteArray) (n : Nat) : Prop := (S.file s = none ∧ 64 ≤ S.count) ∨ 262144 < (S.got s).bytes.length + n
instance (S : DevS) (s : ByteArray) (n : Nat) : Decidable (S.isFull s n) := by
  unfold DevS.isFull
  have : Decidable (S.file s = none) := decidable_of_iff ((S.file s).isNone = true) (by simp)
  exact inferInstance
def appS (S : DevS) (s : ByteArray) (b : List Int) : Int × DevS :=
  if nameOk s = false then (8, S) else if S.isFull s b.length then (19, S) else if S.left = 0 then (30, S) else (0, S.step.put s ⟨(S.got s).bytes ++ b, (S.got s).synced⟩)
theorem looks_ {P : Program} {w : World} {sT : TypeId} {oi : Oper} {a : Act} (m x : Operand) (t : TypeId) (hop : oi.op = Op.lookup t m x true) (e : TypeId) (hs : P.underlying sT = some .string) (ht : P.underlying t = some (.map sT e)) (z : Value) (hz : (zeroValue e).run P w = .ok z w)
    (b : Nat) (M : ByteArray → Option Value) (c : Nat) (hm : a.eval m = .map (some b)) (h : MapS P sT w b M c) (s : ByteArray) (hx : a.eval x = .string s) (hl : s.size ≤ maxLen) (u : Value) (bb : Bool) (hu : (M s).getD z = u) (hb : (M s).isSome = bb) :
    (execOp a.eval oi).run P w = .ok (.value (.tuple #[u, .bool bb])) w := by
  subst hu hb
  have hrun := h.look hs ht hz hl
  unfold execOp
  simp [hop, hm, hx, hrun, Result.andThen]
theorem lens_ {P : Program} {w : World} {sT : TypeId} {oi : Oper} {a : Act} (m : Operand) (t : TypeId) (hop : oi.op = Op.call { callee := Callee.builtin Builtin.len, args := #[m], argTypes := #[t] }) (e : TypeId) (ht : P.underlying t = some (.map sT e))
    (b : Nat) (M : ByteArray → Option Value) (c : Nat) (hm : a.eval m = .map (some b)) (h : MapS P sT w b M c) : (execOp a.eval oi).run P w = .ok (.value (.int .i64 c)) w := by
  unfold execOp
  simp [hop, resolve, invoke, builtin, hm, h.len ht oi.type, Result.andThen]
theorem zero_fp (w : World) : (zeroValue 46).run Tryd.prog w = .ok (.pointer none) w := by
  have h : (Tryd.prog.info? 46).map (·.zero) = some (some (.pointer none)) := by kernel_rfl
  obtain ⟨i, h1, h2⟩ := Option.map_eq_some_iff.1 h
  unfold zeroValue
  simp [Sem.run_bind, typeInfo, h1, h2]
theorem MapS.drew {P : Program} {sT : TypeId} {w : World} {b c : Nat} {M : ByteArray → Option Value} (h : MapS P sT w b M c) : MapS P sT w.drew b M c := h.same rfl
theorem DevG.drew {w : World} {base d mb : Nat} {G : ByteArray → Option (Nat × Value)} {S : DevS} (h : DevG w base d mb G S) : DevG w.drew base d mb G S := h.same (fun _ _ => rfl)
theorem do_did (d mb : Nat) (o l : Int) (f : FuncId) (fn : Func) (hf : Tryd.prog.funcs[f]? = some fn) (hname : (fn.name == "runtime.NumGoroutine") = false) (hbody : fn.body.isSome = true) (cap : Array Value) (w : World) (hc : w.heap[d]? = some (.cells (devC mb o l) dT (0, 0)))
    (ho : 0 ≤ o ∧ o ≤ 4611686018427387904) (hl : -1 ≤ l ∧ l ≤ 4611686018427387904) (Qp : World → Prop)
    (hop : l ≠ 0 → ∀ w1, w1.heap[d]? = some (.cells (devC mb (o + 1) (lessL l)) dT (0, 0)) → Only (fun k => k = d) w w1 → Calls Tryd.prog f cap w1 fun e w' => (∃ v, e = .returned v) ∧ Qp w') :
    Calls Tryd.prog 21 #[.pointer (some ⟨d, 0, none⟩), .func (.func f) #[] cap] w fun e w' => ∃ k, e = .returned (errV k) ∧ ((l = 0 ∧ k = 30 ∧ w' = w) ∨ (l ≠ 0 ∧ k = 0 ∧ Qp w')) := by
  refine (do_calls d mb o l f fn hf hname hbody cap w hc ho hl Qp hop).mono ?_
  rintro e w' (⟨h0, rfl, rfl⟩ | ⟨h0, rfl, hq⟩)
  · exact ⟨30, rfl, Or.inl ⟨h0, rfl, rfl⟩⟩
  · exact ⟨0, rfl, Or.inr ⟨h0, rfl, hq⟩⟩
theorem cells_ne {w : World} {k k' : Nat} {cs cs' : Array Value} {t t' : TypeId} (h : w.heap[k]? = some (Obj.cells cs t (0, 0))) (h' : w.heap[k']? = some (Obj.cells cs' t' (0, 0))) (ht : (t == t') = false) : k ≠ k' := fun e => by
  rw [e, h'] at h
  injection h with h
  injection h with _ h
  rw [h] at ht
  simp at ht
theorem append1_op (w w3 : World) (base d mb fv bx dx nx fb : Nat) (G : ByteArray → Option (Nat × Value)) (S : DevS) (s : ByteArray) (v bv : Value) (f : FileS) (news : List Int)
    (hD : DevG w base d mb G S) (hF : Fine S) (hB : Below w.heap.size w w3) (hfv : w3.heap[fv]? = some (.cells #[.pointer (some ⟨fb, 0, none⟩)] 46 (0, 0))) (hbx : w3.heap[bx]? = some (.cells #[bv] 28 (0, 0))) (hdx : w3.heap[dx]? = some (.cells #[.pointer (some ⟨d, 0, none⟩)] 22 (0, 0))) (hnx : w3.heap[nx]? = some (.cells #[.string s] 9 (0, 0)))
    (hf : FileAt w3 base fb v f) (hcase : (G s = some (fb, v) ∧ S.file s = some f) ∨ (G s = none ∧ w.heap.size ≤ fb ∧ v.ownBlock = none))
    (hR : ReadB w (OwnD d mb G) bv news) (hlim : f.bytes.length + news.length ≤ 262144) (hs : s.size ≤ 40) (hbase : base ≤ w.heap.size) :
    ∀ w1 : World, w1.heap[d]? = some (.cells (devC mb (S.ops + 1) (lessL S.left)) dT (0, 0)) → Only (fun k => k = d) w3 w1 →
    Calls Tryd.prog 22 #[.pointer (some ⟨fv, 0, none⟩), .pointer (some ⟨bx, 0, none⟩), .pointer (some ⟨dx, 0, none⟩), .pointer (some ⟨nx, 0, none⟩)] w1 fun e w' => (∃ v, e = .returned v) ∧
      ∃ G', DevG w' base d mb G' (S.step.put s ⟨f.bytes ++ news, f.synced⟩) ∧ Only (OwnD d mb G) w w' ∧ NewD w.heap.size d mb G G' := by
  intro w1 hc ho
  have hD3 := hD.below hB
  have hst : ∀ k o, k ≠ d → w3.heap[k]? = some o → w1.heap[k]? = some o := fun k o hk h => (ho.block k (Array.getElem?_eq_some_iff.1 h).1 hk).trans h
  have hD1 : DevG w1 base d mb G S.step := hD3.count hc (fun k hk hkd => ho.block k hk hkd)
  have hown : ∀ k, k = d → OwnD d mb G k := fun k e => Or.inl e
  have hf1 : FileAt w1 base fb v f := ⟨hst _ _ (cells_ne hf.1 hD3.cell (by decide)) hf.1, hf.2.same (fun g hg => by
    obtain ⟨_, hgl, cur, h4⟩ := hf.2.own g hg
    exact ho.block g hgl (cells_ne h4 hD3.cell (by decide)))⟩
  have hR1 : ReadB w1 (OwnD d mb G) bv news := (hR.only (Only.of_below hB)).only (ho.mono (fun k _ e => hown k e))
  have hB1 : w.heap.size ≤ w1.heap.size := Nat.le_trans hB.size ho.size
  have hc1 : (G s = some (fb, v) ∧ S.step.file s = some f) ∨ (G s = none ∧ ¬ OwnD d mb G fb ∧ base ≤ fb ∧ v.ownBlock = none) := by
    rcases hcase with h | ⟨h1, h2, h3⟩
    · exact Or.inl h
    · refine Or.inr ⟨h1, fun e => ?_, Nat.le_trans hbase h2, h3⟩
      have := hD.own_lt fb e
      omega
  refine (append1_calls w1 base d mb fv bx dx nx fb G S.step s v bv f news (OwnD d mb G) hD1 (hst _ _ (cells_ne hfv hD3.cell (by decide)) hfv) (hst _ _ (cells_ne hbx hD3.cell (by decide)) hbx) (hst _ _ (cells_ne hdx hD3.cell (by decide)) hdx) (hst _ _ (cells_ne hnx hD3.cell (by decide)) hnx) hf1 hc1 hR1 hlim hF.count hs (Nat.le_trans hbase hB1)).mono ?_
  rintro e w' ⟨he, v', r1, r2, r3⟩
  refine ⟨he, _, r1, ?_, ?_⟩
  · have o1 : Only (OwnD d mb G) w w1 := (Only.of_below hB).trans (ho.mono (fun k _ e => hown k e))
    refine ⟨r2.os.trans o1.os, r2.tape.trans o1.tape, r2.output.trans o1.output, Nat.le_trans o1.size r2.size, fun k hk hn => (r2.block k (Nat.lt_of_lt_of_le hk o1.size) (fun e => ?_)).trans (o1.block k hk hn)⟩
    rcases e with e | e
    · exact hn e
    · rcases hcase with ⟨h1, _⟩ | ⟨_, h2, _⟩
      · exact hn (Or.inr (Or.inr ⟨s, _, h1, Or.inl e⟩))
      · omega
  · rintro k (rfl | rfl | ⟨t, p, hp, hk⟩)
    · exact Or.inl (Or.inl rfl)
    · exact Or.inl (Or.inr (Or.inl rfl))
    · replace hp : (if t = s then some (fb, v') else G t) = some p := hp
      by_cases ht : t = s
      · rw [if_pos ht] at hp
        obtain rfl := Option.some.inj hp
        rcases hcase with ⟨h1, _⟩ | ⟨h1, h2, h3⟩
        · rcases hk with rfl | hk
          · exact Or.inl (Or.inr (Or.inr ⟨s, _, h1, Or.inl rfl⟩))
          · rcases r3 with r3 | r3
            · exact Or.inl (Or.inr (Or.inr ⟨s, _, h1, Or.inr (r3.symm.trans hk)⟩))
            · have h5 := r3.symm.trans hk
              injection h5 with h5
              exact Or.inr (by omega)
        · rcases hk with rfl | hk
          · exact Or.inr h2
          · rcases r3 with r3 | r3
            · have h5 := r3.symm.trans hk
              rw [h3] at h5
              cases h5
            · have h5 := r3.symm.trans hk
              injection h5 with h5
              exact Or.inr (by omega)
      · rw [if_neg ht] at hp
        exact Or.inl (Or.inr (Or.inr ⟨t, p, hp, hk⟩))
end Go.Proofs.YtnmbkaccoaeijaaDoor

/- The device's methods walked: Append. -/
namespace Go.Proofs.YtnmbkaccoaeijaaDoor
open Go.RowKit Go.Proofs.YtnmbkaccoaeijaaDoorW.PrintWords Go.Proofs.YtnmbkaccoaeijaaDoorW.PrintLast
def rg6_3_T : Bool × List (List Nat × List Nat) := (true, [([], []), ([0], [0]), ([1], [1]), ([2], [2]), ([], []), ([3, 4], [3, 4]), ([5], [5]), ([6], [6]), ([6], [6]), ([], []), ([9, 7, 0, 1, 2, 3, 4, 5, 6, 7, 9], [7, 9]), ([8, 10, 0, 1, 2, 3, 4, 5, 6, 7, 8, 9, 10], [8])])
def rg6_3_B : List Nat := [0, 1, 3, 7, 0, 31, 63, 127, 127, 0, 767, 2047]
theorem rg6_3_tab : rtab .any (opsOf Tryd.f6 3) = rg6_3_T := by kernel_rfl
theorem rg6_3_bits : waitsOk rg6_3_T.2 rg6_3_B = true := by kernel_rfl
def rg6_6_T : Bool × List (List Nat × List Nat) := (true, [([], []), ([0], [0]), ([1], [1]), ([2], [2]), ([3, 2], [2, 3]), ([4, 2], [2, 4]), ([5, 2], [2, 5]), ([6, 2, 2], [2, 6]), ([7, 2], [2, 7]), ([2, 8], [2, 8]), ([9, 7], [9]), ([10], [10]), ([11, 10], [10, 11]), ([10], [10]), ([13, 10], [10, 13]), ([14, 10], [10, 14]), ([15, 10], [10, 15]), ([16, 10], [10, 16]), ([17, 10], [10, 17]), ([12, 18, 10], [10, 12, 18]), ([10, 19], [10, 19])])
def rg6_6_B : List Nat := [0, 1, 3, 7, 15, 31, 63, 127, 255, 511, 1023, 2047, 4095, 2047, 10239, 26623, 59391, 124927, 255999, 524287, 1048575]
theorem rg6_6_tab : rtab .any (opsOf Tryd.f6 6) = rg6_6_T := by kernel_rfl
theorem rg6_6_bits : waitsOk rg6_6_T.2 rg6_6_B = true := by kernel_rfl
def Did (w : World) (base d mb : Nat) (G : ByteArray → Option (Nat × Value)) (v : Value) (S' : DevS) (e : Ending) (w' : World) : Prop :=
  e = .returned v ∧ ∃ G', DevG w' base d mb G' S' ∧ Only (OwnD d mb G) w w' ∧ NewD w.heap.size d mb G G'
theorem Did.still {w w' : World} {base d mb : Nat} {G : ByteArray → Option (Nat × Value)} {S : DevS} (v : Value) (hD : DevG w base d mb G S) (hB : Below w.heap.size w w') : Did w base d mb G v S (.returned v) w' :=
  ⟨rfl, G, hD.below hB, Only.of_below hB, fun k hk => Or.inl hk⟩
theorem ReadB.form {w : World} {own : Nat → Prop} {bv : Value} {news : List Int} (h : ReadB w own bv news) : ∃ A c, bv = .slice A news.length c := by
  rcases h with ⟨rfl, rfl⟩ | ⟨a, c, rfl, _⟩
  · exact ⟨none, 0, rfl⟩
  · exact ⟨some a, c, rfl⟩
def box3 (w : World) (d : Nat) (s : ByteArray) (bv : Value) : World := ((w.alloc (Obj.cells #[.pointer (some ⟨d, 0, none⟩)] 22 (0, 0))).alloc (Obj.cells #[.string s] 9 (0, 0))).alloc (Obj.cells #[bv] 28 (0, 0))
theorem box3_at (w : World) (d : Nat) (s : ByteArray) (bv : Value) : Below w.heap.size w (box3 w d s bv) ∧ (box3 w d s bv).heap.size = w.heap.size + 3 ∧ (box3 w d s bv).heap[w.heap.size]? = some (Obj.cells #[.pointer (some ⟨d, 0, none⟩)] 22 (0, 0)) ∧
    (box3 w d s bv).heap[w.heap.size + 1]? = some (Obj.cells #[.string s] 9 (0, 0)) ∧ (box3 w d s bv).heap[w.heap.size + 2]? = some (Obj.cells #[bv] 28 (0, 0)) := by
  unfold box3
  refine ⟨below_alloc (below_alloc (below_alloc (Below.refl _ _) _) _) _, by simp, ?_, ?_, ?_⟩
  · exact (heap_alloc_old _ _ (by simp; omega)).trans ((heap_alloc_old _ _ (by simp)).trans (heap_alloc_new w _))
  · exact (heap_alloc_old _ _ (by simp)).trans (by have := heap_alloc_new (w.alloc (Obj.cells #[.pointer (some ⟨d, 0, none⟩)] 22 (0, 0))) (Obj.cells #[.string s] 9 (0, 0)); simpa using this)
  · have := heap_alloc_new ((w.alloc (Obj.cells #[.pointer (some ⟨d, 0, none⟩)] 22 (0, 0))).alloc (Obj.cells #[.string s] 9 (0, 0))) (Obj.cells #[bv] 28 (0, 0))
    simpa using this
theorem named_is (s : ByteArray) (b : Bool) (h : nameOk s = b) (w : World) : Calls Tryd.prog 20 #[.string s] w fun e w' => e = .returned (.bool b) ∧ w' = w := by
  rw [← h]
  exact named_calls s w
set_option maxHeartbeats 2000000 in
set_option maxRecDepth 100000 in
theorem append_bad (w : World) (base d mb : Nat) (G : ByteArray → Option (Nat × Value)) (S : DevS) (s : ByteArray) (A : Option Addr) (n c : Nat) (news : List Int) (hD : DevG w base d mb G S) (hn : nameOk s = false) :
    Calls Tryd.prog 6 #[.pointer (some ⟨d, 0, none⟩), .string s, .slice A n c] w (Did w base d mb G (errV (appS S s news).1) (appS S s news).2) := by
  obtain ⟨b1, b2, b3, b4, b5⟩ := box3_at w d s (.slice A n c)
  have e1 : appS S s news = (8, S) := by unfold appS; rw [if_pos hn]
  have HS := Lib.hid (fun W (hW : Below w.heap.size w W) => Did.still (errE 8) hD hW)
  rw [e1]
  clear hD
  go_enter Tryd.func6, Tryd.ntmps6
  go_upto_region 1 with (fail)
  generalize hE : ((w.alloc _).alloc _).alloc _ = W0
  rw [show box3 w d s (.slice A n c) = W0 from hE] at b1 b2 b3 b4 b5
  have C4 : W0.cell? ⟨w.heap.size + 1, 0, none⟩ = some (.string s) := (cell_of_row _ _ 0 _ _ _ b4).trans rfl
  have HB := Lib.hid b1
  have HN := Lib.hid hn
  clear hE b1 b2 b3 b4 b5
  go_wp2_with (go_at_call 20; (with_reducible refine (named_is s _ HN.out _).mono ?_); rintro e w1 ⟨rfl, hw1⟩; rw [hw1]; clear hw1)
  go_ret
  exact HS.out _ HB.out
set_option maxHeartbeats 4000000 in
set_option maxRecDepth 100000 in
theorem append_have (w : World) (base d mb : Nat) (G : ByteArray → Option (Nat × Value)) (S : DevS) (s : ByteArray) (A : Option Addr) (c : Nat) (news : List Int) (p : Nat × Value) (f : FileS) (hD : DevG w base d mb G S) (hF : Fine S) (hG : G s = some p) (hf : S.file s = some f) (hR : ReadB w (OwnD d mb G) (.slice A news.length c) news) (hlen : news.length ≤ 1000000) (hbase : base ≤ w.heap.size) (hn : nameOk s = true) :
    Calls Tryd.prog 6 #[.pointer (some ⟨d, 0, none⟩), .string s, .slice A news.length c] w (Did w base d mb G (errV (appS S s news).1) (appS S s news).2) := by
  obtain ⟨b1, b2, b3, b4, b5⟩ := box3_at w d s (.slice A news.length c)
  obtain ⟨fb, v⟩ := p
  obtain ⟨f', hf', hfa⟩ := hD.file s _ hG
  obtain rfl : f' = f := Option.some.inj (hf'.symm.trans hf)
  obtain ⟨A2, c2, rfl, hc2⟩ := hfa.2.form
  obtain ⟨nf, hnf⟩ : ∃ k, k = f'.bytes.length := ⟨_, rfl⟩
  rw [← hnf] at hG hfa
  have hfl := (hF.file s f' hf).1
  have hsz : 1 ≤ s.size ∧ s.size ≤ 40 := of_decide_eq_true hn
  obtain ⟨m, hm⟩ : ∃ k, k = news.length := ⟨_, rfl⟩
  rw [← hm] at hR b1 b2 b3 b4 b5 hlen ⊢
  have HM := Lib.hid hm
  have HNF := Lib.hid hnf
  have hgot : S.got s = f' := by unfold DevS.got; rw [hf]; rfl
  have hfull : S.isFull s news.length ↔ 262144 - (nf : Int) < m := by
    unfold DevS.isFull
    rw [hf, hgot]
    simp only [reduceCtorEq, false_and, false_or]
    omega
  clear hm hnf
  go_enter Tryd.func6, Tryd.ntmps6
  go_upto_region 1 with (fail)
  generalize hE : ((w.alloc _).alloc _).alloc _ = W0
  rw [show box3 w d s (.slice A m c) = W0 from hE] at b1 b2 b3 b4 b5
  have C4 : W0.cell? ⟨w.heap.size + 1, 0, none⟩ = some (.string s) := (cell_of_row _ _ 0 _ _ _ b4).trans rfl
  have HD0 := Lib.hid (hD.below b1)
  have HA := Lib.hid (And.intro b1 (And.intro b2 (And.intro b3 (And.intro b4 b5))))
  have HN := Lib.hid hn
  have HX := Lib.hid (And.intro hD (And.intro hF (And.intro hG (And.intro hf (And.intro hfa (And.intro hR (And.intro hgot hfull)))))))
  clear hE b1 b2 b3 b4 b5 hD hF hG hf hfa hR hgot hfull hf'
  go_upto_region 3 with (go_at_call 20; (with_reducible refine (named_is s _ HN.out _).mono ?_); rintro e w1 ⟨rfl, hw1⟩; rw [hw1]; clear hw1)
  obtain ⟨n0, hn0⟩ : ∃ x, x = w.heap.size := ⟨_, rfl⟩
  rw [← hn0] at C4 ⊢
  have HN0 := Lib.hid hn0
  clear hn0
  have E1 : W0.drew.cell? ⟨n0, 0, none⟩ = some (.pointer (some ⟨d, 0, none⟩)) := by rw [HN0.out]; exact (cell_of_row _ _ 0 _ _ _ HA.out.2.2.1).trans rfl
  have E2 : W0.drew.cell? ⟨d, 0, none⟩ = some (.map (some mb)) := (cell_of_row _ _ 0 _ _ _ HD0.out.cell).trans rfl
  have E3 : W0.drew.cell? ⟨n0 + 1, 0, none⟩ = some (.string s) := C4
  have E4 := HD0.out.map.drew
  refine start_ (n := 12) (S := fun w' => w'.cell? ⟨n0, 0, none⟩ = some (.pointer (some ⟨d, 0, none⟩)) ∧ w'.cell? ⟨d, 0, none⟩ = some (.map (some mb)) ∧ w'.cell? ⟨n0 + 1, 0, none⟩ = some (.string s) ∧ MapS Tryd.prog sT w' mb (fun t => (G t).map ptrOf) S.count) (ds := [10]) (bs 12 0) (by kernel_rfl) rfl (by kernel_rfl) ⟨E1, E2, E3, E4⟩ (fun hHeld => ?_)
  refine with_tabW rg6_3_tab rg6_3_bits (fun HT_ HW_ => ?_)
  refine tk 0 (some 14) (bs 12 1) HT_ HW_ rfl rfl (by kernel_rfl) (fun _ _ _ _ h => h) hHeld ⟨_, .inl ⟨by rfl, by rintro w' ⟨s0, s1, s2, s3⟩; go_simp; with_reducible rfl⟩, _, by simp only [Act.put, sA, sB, sC, i64_w, i32_w]; rfl, ?_⟩
  refine pu 1 (some 15) (bs 12 3) HT_ rfl rfl (by kernel_rfl) (fun _ _ _ _ h => h) ⟨_, .inl ⟨by rfl, fun _ => by go_simp; with_reducible rfl⟩, _, by simp only [Act.put, sA, sB, sC, i64_w, i32_w]; rfl, ?_⟩
  refine pu 2 (some 16) (bs 12 7) HT_ rfl rfl (by kernel_rfl) (fun _ _ _ _ h => h) ⟨_, .inl ⟨by rfl, fun _ => by go_simp; with_reducible rfl⟩, _, by simp only [Act.put, sA, sB, sC, i64_w, i32_w]; rfl, ?_⟩
  refine tk 3 (some 17) (bs 12 15) HT_ HW_ rfl rfl (by kernel_rfl) (fun _ _ _ _ h => h) hHeld ⟨_, .inl ⟨by rfl, by rintro w' ⟨s0, s1, s2, s3⟩; go_simp; with_reducible rfl⟩, _, by simp only [Act.put, sA, sB, sC, i64_w, i32_w]; rfl, ?_⟩
  refine tk 4 (some 18) (bs 12 31) HT_ HW_ rfl rfl (by kernel_rfl) (fun _ _ _ _ h => h) hHeld ⟨_, .inl ⟨by rfl, by rintro w' ⟨s0, s1, s2, s3⟩; go_simp; with_reducible rfl⟩, _, by simp only [Act.put, sA, sB, sC, i64_w, i32_w]; rfl, ?_⟩
  refine tk 5 (some 19) (bs 12 63) HT_ HW_ rfl rfl (by kernel_rfl) (fun _ _ _ _ h => h) hHeld ⟨_, .inl ⟨by rfl, by rintro w' ⟨s0, s1, s2, s3⟩; exact looks_ (.tmp 17) (.tmp 18) 40 rfl 46 Tryd.underlying9 Tryd.underlying40 (.pointer none) (zero_fp _) mb _ _ rfl s3 s rfl (Nat.le_trans hsz.2 (by decide)) (.pointer (some ⟨fb, 0, none⟩)) true (by simp only [HX.out.2.2.1]; rfl) (by simp only [HX.out.2.2.1]; rfl)⟩, _, by simp only [Act.put, sA, sB, sC, i64_w, i32_w]; rfl, ?_⟩
  refine pu 6 (some 13) (bs 12 127) HT_ rfl rfl (by kernel_rfl) (fun _ _ _ _ h => h) ⟨_, .inl ⟨by rfl, fun _ => by go_simp; with_reducible rfl⟩, _, by simp only [Act.put, sA, sB, sC, i64_w, i32_w]; rfl, ?_⟩
  refine pu 7 (some 20) (bs 12 255) HT_ rfl rfl (by kernel_rfl) (fun _ _ _ _ h => h) ⟨_, .inl ⟨by rfl, fun _ => by go_simp; with_reducible rfl⟩, _, by simp only [Act.put, sA, sB, sC, i64_w, i32_w]; rfl, ?_⟩
  refine pu 8 (some 21) (bs 12 511) HT_ rfl rfl (by kernel_rfl) (fun _ _ _ _ h => h) ⟨_, .inl ⟨by rfl, fun _ => by go_simp; with_reducible rfl⟩, _, by simp only [Act.put, sA, sB, sC, i64_w, i32_w]; rfl, ?_⟩
  refine on1 9 (some 7) (bs 12 1023) HT_ rfl rfl (by kernel_rfl) (by decide) (fun K hK => ?_)
  refine allocs_ (z := #[.pointer none]) (t := 46) (by rfl) rfl (by first | (go_simp; done) | (go_simp; rfl)) ?_
  intro gf w1 hgf Gf hb1
  refine hK.out _ _ ⟨cell_below hb1 E1, cell_below hb1 E2, cell_below hb1 E3, E4.same (hb1.block mb E4.lt)⟩ (fun hHeld => ?_)
  clear hK K
  refine nm ⟨_, show Act.put _ (some 7) _ = _ by simp only [Act.put, sA, sB, sC, i64_w, i32_w]; rfl, ?_⟩
  refine la1 10 (none) (bs 12 2047) HT_ rfl rfl (by kernel_rfl) (by decide) (fun K hK => ?_)
  refine store1_ (g := gf) (i := 0) (x := .tmp 7) (y := .tmp 20) (u := .pointer (some ⟨fb, 0, none⟩)) (by rfl) rfl rfl rfl rfl rfl Gf (show 0 < 1 by decide) (by kernel_rfl) rfl ?_
  intro w2 G2 hk2 hb2
  refine hK.out _ _ ?_
  clear hK K
  refine pu 11 (some 8) (bs 12 4095) HT_ rfl rfl (by kernel_rfl) (fun _ _ _ _ h => h) ⟨_, .inl ⟨by rfl, fun _ => by go_simp; with_reducible rfl⟩, _, by simp only [Act.put, sA, sB, sC, i64_w, i32_w]; rfl, ?_⟩
  refine done_ (done_of HT_.out (by kernel_rfl)) ?_
  have HGF := Lib.hid hgf
  have HB2 : Below w.heap.size w w2 := hb2 _ _ ((HA.out.1.drew).trans (hb1.mono (Nat.le_trans HA.out.1.size (Nat.le_refl _)))) (by rw [hgf]; exact HA.out.1.size)
  have K2 : ∀ k o, k < W0.heap.size → W0.heap[k]? = some o → w2.heap[k]? = some o := fun k o hk h => (hk2 k (by rw [hgf]; exact Nat.ne_of_lt hk)).trans ((hb1.block k hk).trans h)
  have G0 : w2.heap[n0]? = some (.cells #[.pointer (some ⟨d, 0, none⟩)] 22 (0, 0)) := by rw [HN0.out]; exact K2 _ _ (blkLt HA.out.2.2.1) HA.out.2.2.1
  have G1 : w2.heap[n0 + 1]? = some (.cells #[.string s] 9 (0, 0)) := by rw [HN0.out]; exact K2 _ _ (blkLt HA.out.2.2.2.1) HA.out.2.2.2.1
  have G3 : w2.heap[n0 + 1 + 1]? = some (.cells #[.slice A m c] 28 (0, 0)) := by rw [HN0.out]; exact K2 _ _ (blkLt HA.out.2.2.2.2) HA.out.2.2.2.2
  have HD2 := HX.out.1.below HB2
  obtain ⟨f2, hf2, hfa2⟩ := HD2.file s _ HX.out.2.2.1
  obtain rfl : f2 = f' := Option.some.inj (hf2.symm.trans HX.out.2.2.2.1)
  have H2 := Lib.hid (And.intro HB2 (And.intro G0 (And.intro G1 (And.intro G3 (And.intro G2 hfa2)))))
  have E1 : w2.drew.cell? ⟨n0 + 1 + 1, 0, none⟩ = some (.slice A m c) := (cell_of_row _ _ 0 _ _ _ G3).trans rfl
  have E2 : w2.drew.cell? ⟨gf, 0, none⟩ = some (.pointer (some ⟨fb, 0, none⟩)) := (cell_of_row _ _ 0 _ _ _ G2).trans rfl
  have E3 : w2.drew.cell? ⟨fb, 0, none⟩ = some (.slice A2 nf c2) := (cell_of_row _ _ 0 _ _ _ hfa2.1).trans rfl
  have C0 : w2.cell? ⟨n0, 0, none⟩ = some (.pointer (some ⟨d, 0, none⟩)) := (cell_of_row _ _ 0 _ _ _ G0).trans rfl
  have hw : wrap64 (262144 - (nf : Int)) = 262144 - nf := by have := HNF.out; unfold wrap64; omega
  clear HB2 K2 G0 G1 G3 G2 HD2 hf2 hfa2 hb2 hk2 hb1 hgf
  by_cases hu : 262144 - (nf : Int) < m
  · have hu1 : decide (262144 - (nf : Int) < m) = true := decide_eq_true hu
    have e1 : appS S s news = (19, S) := by
      unfold appS
      rw [if_neg (by rw [HN.out]; decide), if_pos (HX.out.2.2.2.2.2.2.2.2 hu)]
    have HE1 := Lib.hid e1
    clear e1
    have HE := Lib.hid (Did.still (errE 19) HX.out.1 H2.out.1.drew)
    go_upto_region 6 with (fail)
    refine start_ (n := 21) (S := fun w' => w'.cell? ⟨n0 + 1 + 1, 0, none⟩ = some (.slice A m c) ∧ w'.cell? ⟨gf, 0, none⟩ = some (.pointer (some ⟨fb, 0, none⟩)) ∧ w'.cell? ⟨fb, 0, none⟩ = some (.slice A2 nf c2)) (ds := []) (bs 21 0) (by kernel_rfl) rfl (by kernel_rfl) ⟨E1, E2, E3⟩ (fun hHeld => ?_)
    refine with_tabW rg6_6_tab rg6_6_bits (fun HT_ HW_ => ?_)
    refine pu 0 (some 26) (bs 21 1) HT_ rfl rfl (by kernel_rfl) (fun _ _ _ _ h => h) ⟨_, .inl ⟨by rfl, fun _ => by go_simp; with_reducible rfl⟩, _, by simp only [Act.put, sA, sB, sC, i64_w, i32_w]; rfl, ?_⟩
    refine pu 1 (some 27) (bs 21 3) HT_ rfl rfl (by kernel_rfl) (fun _ _ _ _ h => h) ⟨_, .inl ⟨by rfl, fun _ => by go_simp; with_reducible rfl⟩, _, by simp only [Act.put, sA, sB, sC, i64_w, i32_w]; rfl, ?_⟩
    refine pu 2 (some 28) (bs 21 7) HT_ rfl rfl (by kernel_rfl) (fun _ _ _ _ h => h) ⟨_, .inl ⟨by rfl, fun _ => by go_simp; with_reducible rfl⟩, _, by simp only [Act.put, sA, sB, sC, i64_w, i32_w]; rfl, ?_⟩
    refine pu 3 (some 29) (bs 21 15) HT_ rfl rfl (by kernel_rfl) (fun _ _ _ _ h => h) ⟨_, .inr ⟨by rfl, rfl⟩, _, by simp only [Act.put, sA, sB, sC, i64_w, i32_w]; rfl, ?_⟩
    refine pu 4 (some 30) (bs 21 31) HT_ rfl rfl (by kernel_rfl) (fun _ _ _ _ h => h) ⟨_, .inr ⟨by rfl, rfl⟩, _, by simp only [Act.put, sA, sB, sC, i64_w, i32_w]; rfl, ?_⟩
    refine pu 5 (some 31) (bs 21 63) HT_ rfl rfl (by kernel_rfl) (fun _ _ _ _ h => h) ⟨_, .inr ⟨by rfl, rfl⟩, _, by simp only [Act.put, sA, sB, sC, i64_w, i32_w]; rfl, ?_⟩
    refine pu 6 (some 32) (bs 21 127) HT_ rfl rfl (by kernel_rfl) (fun _ _ _ _ h => h) ⟨_, .inr ⟨by rfl, rfl⟩, _, by simp only [Act.put, sA, sB, sC, i64_w, i32_w]; rfl, ?_⟩
    refine pu 7 (some 33) (bs 21 255) HT_ rfl rfl (by kernel_rfl) (fun _ _ _ _ h => h) ⟨_, .inr ⟨by rfl, rfl⟩, _, by simp only [Act.put, sA, sB, sC, i64_w, i32_w]; rfl, ?_⟩
    refine pu 8 (some 34) (bs 21 511) HT_ rfl rfl (by kernel_rfl) (fun _ _ _ _ h => h) ⟨_, .inr ⟨by rfl, rfl⟩, _, by simp only [Act.put, sA, sB, sC, i64_w, i32_w]; rfl, ?_⟩
    refine pu 9 (some 35) (bs 21 1023) HT_ rfl rfl (by kernel_rfl) (fun _ _ _ _ h => h) ⟨_, .inl ⟨by rfl, fun _ => by go_simp; with_reducible rfl⟩, _, by simp only [Act.put, sA, sB, sC, i64_w, i32_w]; rfl, ?_⟩
    refine pu 10 (some 36) (bs 21 2047) HT_ rfl rfl (by kernel_rfl) (fun _ _ _ _ h => h) ⟨_, .inl ⟨by rfl, fun _ => by go_simp; with_reducible rfl⟩, _, by simp only [Act.put, sA, sB, sC, i64_w, i32_w]; rfl, ?_⟩
    refine tk 11 (some 37) (bs 21 4095) HT_ HW_ rfl rfl (by kernel_rfl) (fun _ _ _ _ h => h) hHeld ⟨_, .inl ⟨by rfl, by rintro w' ⟨s0, s1, s2⟩; go_simp; with_reducible rfl⟩, _, by simp only [Act.put, sA, sB, sC, i64_w, i32_w]; rfl, ?_⟩
    refine tk 12 (some 38) (bs 21 8191) HT_ HW_ rfl rfl (by kernel_rfl) (fun _ _ _ _ h => h) hHeld ⟨_, .inl ⟨by rfl, by rintro w' ⟨s0, s1, s2⟩; go_simp; with_reducible rfl⟩, _, by simp only [Act.put, sA, sB, sC, i64_w, i32_w]; rfl, ?_⟩
    refine tk 13 (some 39) (bs 21 16383) HT_ HW_ rfl rfl (by kernel_rfl) (fun _ _ _ _ h => h) hHeld ⟨_, .inl ⟨by rfl, by rintro w' ⟨s0, s1, s2⟩; go_simp; with_reducible rfl⟩, _, by simp only [Act.put, sA, sB, sC, i64_w, i32_w]; rfl, ?_⟩
    refine pu 14 (some 40) (bs 21 32767) HT_ rfl rfl (by kernel_rfl) (fun _ _ _ _ h => h) ⟨_, .inl ⟨by rfl, fun _ => by go_simp; with_reducible rfl⟩, _, by simp only [Act.put, sA, sB, sC, i64_w, i32_w]; rfl, ?_⟩
    refine pu 15 (some 41) (bs 21 65535) HT_ rfl rfl (by kernel_rfl) (fun _ _ _ _ h => h) ⟨_, .inl ⟨by rfl, fun _ => by go_simp; with_reducible rfl⟩, _, by simp only [Act.put, sA, sB, sC, i64_w, i32_w]; rfl, ?_⟩
    refine tk 16 (some 42) (bs 21 131071) HT_ HW_ rfl rfl (by kernel_rfl) (fun _ _ _ _ h => h) hHeld ⟨_, .inl ⟨by rfl, by rintro w' ⟨s0, s1, s2⟩; go_simp; with_reducible rfl⟩, _, by simp only [Act.put, sA, sB, sC, i64_w, i32_w]; rfl, ?_⟩
    refine tk 17 (some 43) (bs 21 262143) HT_ HW_ rfl rfl (by kernel_rfl) (fun _ _ _ _ h => h) hHeld ⟨_, .inl ⟨by rfl, by rintro w' ⟨s0, s1, s2⟩; go_simp; with_reducible rfl⟩, _, by simp only [Act.put, sA, sB, sC, i64_w, i32_w]; rfl, ?_⟩
    refine pu 18 (some 44) (bs 21 524287) HT_ rfl rfl (by kernel_rfl) (fun _ _ _ _ h => h) ⟨_, .inl ⟨by rfl, fun _ => by go_simp; with_reducible rfl⟩, _, by simp only [Act.put, sA, sB, sC, i64_w, i32_w]; rfl, ?_⟩
    refine pu 19 (some 45) (bs 21 1048575) HT_ rfl rfl (by kernel_rfl) (fun _ _ _ _ h => h) ⟨_, .inl ⟨by rfl, fun _ => by go_simp; with_reducible rfl⟩, _, by simp only [Act.put, sA, sB, sC, i64_w, i32_w]; rfl, ?_⟩
    refine pu 20 (some 46) (bs 21 2097151) HT_ rfl rfl (by kernel_rfl) (fun _ _ _ _ h => h) ⟨_, .inl ⟨by rfl, fun _ => by go_simp; with_reducible rfl⟩, _, by simp only [Act.put, sA, sB, sC, i64_w, i32_w]; rfl, ?_⟩
    refine done_ (done_of HT_.out (by kernel_rfl)) ?_
    go_wp2
    go_ret
    rw [HE1.out]
    exact HE.out
  · have hu1 : decide (262144 - (nf : Int) < m) = false := decide_eq_false hu
    have hlm : f2.bytes.length + news.length ≤ 262144 := by
      have := HNF.out
      have := HM.out
      omega
    have e1 : appS S s news = if S.left = 0 then (30, S) else (0, S.step.put s ⟨f2.bytes ++ news, f2.synced⟩) := by
      unfold appS
      rw [if_neg (by rw [HN.out]; decide), if_neg (fun h => hu (HX.out.2.2.2.2.2.2.2.1 h)), HX.out.2.2.2.2.2.2.1]
    have HOP := Lib.hid (append1_op w w2.drew base d mb gf (n0 + 1 + 1) n0 (n0 + 1) fb G S s (.slice A2 nf c2) (.slice A m c) f2 news HX.out.1 HX.out.2.1 H2.out.1.drew H2.out.2.2.2.2.1 H2.out.2.2.2.1 H2.out.2.1 H2.out.2.2.1 H2.out.2.2.2.2.2 (Or.inl ⟨HX.out.2.2.1, HX.out.2.2.2.1⟩) HX.out.2.2.2.2.2.1 hlm hsz.2 hbase)
    have HDO := Lib.hid (do_did d mb S.ops S.left 22 Tryd.f22 Tryd.func22 rfl rfl #[.pointer (some ⟨gf, 0, none⟩), .pointer (some ⟨n0 + 1 + 1, 0, none⟩), .pointer (some ⟨n0, 0, none⟩), .pointer (some ⟨n0 + 1, 0, none⟩)] w2.drew (HX.out.1.below H2.out.1.drew).cell HX.out.2.1.ops HX.out.2.1.left _ (fun _ => HOP.out))
    have HE := Lib.hid (Did.still (errE 30) HX.out.1 H2.out.1.drew)
    have HE1 := Lib.hid e1
    clear e1
    go_upto_region 6 with (fail)
    refine start_ (n := 21) (S := fun w' => w'.cell? ⟨n0 + 1 + 1, 0, none⟩ = some (.slice A m c) ∧ w'.cell? ⟨gf, 0, none⟩ = some (.pointer (some ⟨fb, 0, none⟩)) ∧ w'.cell? ⟨fb, 0, none⟩ = some (.slice A2 nf c2)) (ds := []) (bs 21 0) (by kernel_rfl) rfl (by kernel_rfl) ⟨E1, E2, E3⟩ (fun hHeld => ?_)
    refine with_tabW rg6_6_tab rg6_6_bits (fun HT_ HW_ => ?_)
    refine pu 0 (some 26) (bs 21 1) HT_ rfl rfl (by kernel_rfl) (fun _ _ _ _ h => h) ⟨_, .inl ⟨by rfl, fun _ => by go_simp; with_reducible rfl⟩, _, by simp only [Act.put, sA, sB, sC, i64_w, i32_w]; rfl, ?_⟩
    refine pu 1 (some 27) (bs 21 3) HT_ rfl rfl (by kernel_rfl) (fun _ _ _ _ h => h) ⟨_, .inl ⟨by rfl, fun _ => by go_simp; with_reducible rfl⟩, _, by simp only [Act.put, sA, sB, sC, i64_w, i32_w]; rfl, ?_⟩
    refine pu 2 (some 28) (bs 21 7) HT_ rfl rfl (by kernel_rfl) (fun _ _ _ _ h => h) ⟨_, .inl ⟨by rfl, fun _ => by go_simp; with_reducible rfl⟩, _, by simp only [Act.put, sA, sB, sC, i64_w, i32_w]; rfl, ?_⟩
    refine pu 3 (some 29) (bs 21 15) HT_ rfl rfl (by kernel_rfl) (fun _ _ _ _ h => h) ⟨_, .inr ⟨by rfl, rfl⟩, _, by simp only [Act.put, sA, sB, sC, i64_w, i32_w]; rfl, ?_⟩
    refine pu 4 (some 30) (bs 21 31) HT_ rfl rfl (by kernel_rfl) (fun _ _ _ _ h => h) ⟨_, .inr ⟨by rfl, rfl⟩, _, by simp only [Act.put, sA, sB, sC, i64_w, i32_w]; rfl, ?_⟩
    refine pu 5 (some 31) (bs 21 63) HT_ rfl rfl (by kernel_rfl) (fun _ _ _ _ h => h) ⟨_, .inr ⟨by rfl, rfl⟩, _, by simp only [Act.put, sA, sB, sC, i64_w, i32_w]; rfl, ?_⟩
    refine pu 6 (some 32) (bs 21 127) HT_ rfl rfl (by kernel_rfl) (fun _ _ _ _ h => h) ⟨_, .inr ⟨by rfl, rfl⟩, _, by simp only [Act.put, sA, sB, sC, i64_w, i32_w]; rfl, ?_⟩
    refine pu 7 (some 33) (bs 21 255) HT_ rfl rfl (by kernel_rfl) (fun _ _ _ _ h => h) ⟨_, .inr ⟨by rfl, rfl⟩, _, by simp only [Act.put, sA, sB, sC, i64_w, i32_w]; rfl, ?_⟩
    refine pu 8 (some 34) (bs 21 511) HT_ rfl rfl (by kernel_rfl) (fun _ _ _ _ h => h) ⟨_, .inr ⟨by rfl, rfl⟩, _, by simp only [Act.put, sA, sB, sC, i64_w, i32_w]; rfl, ?_⟩
    refine pu 9 (some 35) (bs 21 1023) HT_ rfl rfl (by kernel_rfl) (fun _ _ _ _ h => h) ⟨_, .inl ⟨by rfl, fun _ => by go_simp; with_reducible rfl⟩, _, by simp only [Act.put, sA, sB, sC, i64_w, i32_w]; rfl, ?_⟩
    refine pu 10 (some 36) (bs 21 2047) HT_ rfl rfl (by kernel_rfl) (fun _ _ _ _ h => h) ⟨_, .inl ⟨by rfl, fun _ => by go_simp; with_reducible rfl⟩, _, by simp only [Act.put, sA, sB, sC, i64_w, i32_w]; rfl, ?_⟩
    refine tk 11 (some 37) (bs 21 4095) HT_ HW_ rfl rfl (by kernel_rfl) (fun _ _ _ _ h => h) hHeld ⟨_, .inl ⟨by rfl, by rintro w' ⟨s0, s1, s2⟩; go_simp; with_reducible rfl⟩, _, by simp only [Act.put, sA, sB, sC, i64_w, i32_w]; rfl, ?_⟩
    refine tk 12 (some 38) (bs 21 8191) HT_ HW_ rfl rfl (by kernel_rfl) (fun _ _ _ _ h => h) hHeld ⟨_, .inl ⟨by rfl, by rintro w' ⟨s0, s1, s2⟩; go_simp; with_reducible rfl⟩, _, by simp only [Act.put, sA, sB, sC, i64_w, i32_w]; rfl, ?_⟩
    refine tk 13 (some 39) (bs 21 16383) HT_ HW_ rfl rfl (by kernel_rfl) (fun _ _ _ _ h => h) hHeld ⟨_, .inl ⟨by rfl, by rintro w' ⟨s0, s1, s2⟩; go_simp; with_reducible rfl⟩, _, by simp only [Act.put, sA, sB, sC, i64_w, i32_w]; rfl, ?_⟩
    refine pu 14 (some 40) (bs 21 32767) HT_ rfl rfl (by kernel_rfl) (fun _ _ _ _ h => h) ⟨_, .inl ⟨by rfl, fun _ => by go_simp; with_reducible rfl⟩, _, by simp only [Act.put, sA, sB, sC, i64_w, i32_w]; rfl, ?_⟩
    refine pu 15 (some 41) (bs 21 65535) HT_ rfl rfl (by kernel_rfl) (fun _ _ _ _ h => h) ⟨_, .inl ⟨by rfl, fun _ => by go_simp; with_reducible rfl⟩, _, by simp only [Act.put, sA, sB, sC, i64_w, i32_w]; rfl, ?_⟩
    refine tk 16 (some 42) (bs 21 131071) HT_ HW_ rfl rfl (by kernel_rfl) (fun _ _ _ _ h => h) hHeld ⟨_, .inl ⟨by rfl, by rintro w' ⟨s0, s1, s2⟩; go_simp; with_reducible rfl⟩, _, by simp only [Act.put, sA, sB, sC, i64_w, i32_w]; rfl, ?_⟩
    refine tk 17 (some 43) (bs 21 262143) HT_ HW_ rfl rfl (by kernel_rfl) (fun _ _ _ _ h => h) hHeld ⟨_, .inl ⟨by rfl, by rintro w' ⟨s0, s1, s2⟩; go_simp; with_reducible rfl⟩, _, by simp only [Act.put, sA, sB, sC, i64_w, i32_w]; rfl, ?_⟩
    refine pu 18 (some 44) (bs 21 524287) HT_ rfl rfl (by kernel_rfl) (fun _ _ _ _ h => h) ⟨_, .inl ⟨by rfl, fun _ => by go_simp; with_reducible rfl⟩, _, by simp only [Act.put, sA, sB, sC, i64_w, i32_w]; rfl, ?_⟩
    refine pu 19 (some 45) (bs 21 1048575) HT_ rfl rfl (by kernel_rfl) (fun _ _ _ _ h => h) ⟨_, .inl ⟨by rfl, fun _ => by go_simp; with_reducible rfl⟩, _, by simp only [Act.put, sA, sB, sC, i64_w, i32_w]; rfl, ?_⟩
    refine pu 20 (some 46) (bs 21 2097151) HT_ rfl rfl (by kernel_rfl) (fun _ _ _ _ h => h) ⟨_, .inl ⟨by rfl, fun _ => by go_simp; with_reducible rfl⟩, _, by simp only [Act.put, sA, sB, sC, i64_w, i32_w]; rfl, ?_⟩
    refine done_ (done_of HT_.out (by kernel_rfl)) ?_
    go_wp2_with (go_at_call 21; (with_reducible refine HDO.out.mono ?_); rintro e w4 ⟨k4, rfl, h4⟩; have H4 := Lib.hid h4; clear h4)
    go_ret
    rcases H4.out with ⟨h0, rfl, rfl⟩ | ⟨h0, rfl, hq⟩
    · rw [HE1.out, if_pos h0]
      exact HE.out
    · rw [HE1.out, if_neg h0]
      exact ⟨rfl, hq⟩
end Go.Proofs.YtnmbkaccoaeijaaDoor

/- The device's methods walked: Append to a file that isn't there yet; Append. -/
namespace Go.Proofs.YtnmbkaccoaeijaaDoor
open Go.RowKit Go.Proofs.YtnmbkaccoaeijaaDoorW.PrintWords Go.Proofs.YtnmbkaccoaeijaaDoorW.PrintLast
namespace DevE
def rg6_3_T : Bool × List (List Nat × List Nat) := (true, [([], []), ([0], [0]), ([1], [1]), ([2], [2]), ([], []), ([3, 4], [3, 4]), ([5], [5]), ([6], [6]), ([6], [6]), ([], []), ([9, 7, 0, 1, 2, 3, 4, 5, 6, 7, 9], [7, 9]), ([8, 10, 0, 1, 2, 3, 4, 5, 6, 7, 8, 9, 10], [8])])
def rg6_3_B : List Nat := [0, 1, 3, 7, 0, 31, 63, 127, 127, 0, 767, 2047]
theorem rg6_3_tab : rtab .any (opsOf Tryd.f6 3) = rg6_3_T := by kernel_rfl
theorem rg6_3_bits : waitsOk rg6_3_T.2 rg6_3_B = true := by kernel_rfl
def rg6_6_T : Bool × List (List Nat × List Nat) := (true, [([], []), ([0], [0]), ([1], [1]), ([2], [2]), ([3, 2], [2, 3]), ([4, 2], [2, 4]), ([5, 2], [2, 5]), ([6, 2, 2], [2, 6]), ([7, 2], [2, 7]), ([2, 8], [2, 8]), ([9, 7], [9]), ([10], [10]), ([11, 10], [10, 11]), ([10], [10]), ([13, 10], [10, 13]), ([14, 10], [10, 14]), ([15, 10], [10, 15]), ([16, 10], [10, 16]), ([17, 10], [10, 17]), ([12, 18, 10], [10, 12, 18]), ([10, 19], [10, 19])])
def rg6_6_B : List Nat := [0, 1, 3, 7, 15, 31, 63, 127, 255, 511, 1023, 2047, 4095, 2047, 10239, 26623, 59391, 124927, 255999, 524287, 1048575]
theorem rg6_6_tab : rtab .any (opsOf Tryd.f6 6) = rg6_6_T := by kernel_rfl
theorem rg6_6_bits : waitsOk rg6_6_T.2 rg6_6_B = true := by kernel_rfl
set_option maxHeartbeats 4000000 in
set_option maxRecDepth 100000 in
theorem append_new (w : World) (base d mb : Nat) (G : ByteArray → Option (Nat × Value)) (S : DevS) (s : ByteArray) (A : Option Addr) (c : Nat) (news : List Int) (hD : DevG w base d mb G S) (hF : Fine S) (hG : G s = none) (hR : ReadB w (OwnD d mb G) (.slice A news.length c) news) (hlen : news.length ≤ 1000000) (hbase : base ≤ w.heap.size) (hn : nameOk s = true) :
    Calls Tryd.prog 6 #[.pointer (some ⟨d, 0, none⟩), .string s, .slice A news.length c] w (Did w base d mb G (errV (appS S s news).1) (appS S s news).2) := by
  obtain ⟨b1, b2, b3, b4, b5⟩ := box3_at w d s (.slice A news.length c)
  have hf : S.file s = none := hD.absent s hG
  have hsz : 1 ≤ s.size ∧ s.size ≤ 40 := of_decide_eq_true hn
  obtain ⟨m, hm⟩ : ∃ k, k = news.length := ⟨_, rfl⟩
  rw [← hm] at hR b1 b2 b3 b4 b5 hlen ⊢
  have HM := Lib.hid hm
  have hgot : S.got s = ⟨[], 0⟩ := by unfold DevS.got; rw [hf]; rfl
  have hfull : S.isFull s news.length ↔ (64 ≤ S.count ∨ (262144 : Int) < m) := by
    unfold DevS.isFull
    rw [hf, hgot]
    simp only [true_and, List.length_nil]
    omega
  clear hm
  go_enter Tryd.func6, Tryd.ntmps6
  go_upto_region 1 with (fail)
  generalize hE : ((w.alloc _).alloc _).alloc _ = W0
  rw [show box3 w d s (.slice A m c) = W0 from hE] at b1 b2 b3 b4 b5
  have C4 : W0.cell? ⟨w.heap.size + 1, 0, none⟩ = some (.string s) := (cell_of_row _ _ 0 _ _ _ b4).trans rfl
  have HD0 := Lib.hid (hD.below b1)
  have HA := Lib.hid (And.intro b1 (And.intro b2 (And.intro b3 (And.intro b4 b5))))
  have HN := Lib.hid hn
  have HX := Lib.hid (And.intro hD (And.intro hF (And.intro hG (And.intro hf (And.intro hR (And.intro hgot hfull))))))
  clear hE b1 b2 b3 b4 b5 hD hF hG hf hR hgot hfull
  go_upto_region 3 with (go_at_call 20; (with_reducible refine (named_is s _ HN.out _).mono ?_); rintro e w1 ⟨rfl, hw1⟩; rw [hw1]; clear hw1)
  obtain ⟨n0, hn0⟩ : ∃ x, x = w.heap.size := ⟨_, rfl⟩
  rw [← hn0] at C4 ⊢
  have HN0 := Lib.hid hn0
  clear hn0
  have E1 : W0.drew.cell? ⟨n0, 0, none⟩ = some (.pointer (some ⟨d, 0, none⟩)) := by rw [HN0.out]; exact (cell_of_row _ _ 0 _ _ _ HA.out.2.2.1).trans rfl
  have E2 : W0.drew.cell? ⟨d, 0, none⟩ = some (.map (some mb)) := (cell_of_row _ _ 0 _ _ _ HD0.out.cell).trans rfl
  have E3 : W0.drew.cell? ⟨n0 + 1, 0, none⟩ = some (.string s) := C4
  have E4 := HD0.out.map.drew
  refine start_ (n := 12) (S := fun w' => w'.cell? ⟨n0, 0, none⟩ = some (.pointer (some ⟨d, 0, none⟩)) ∧ w'.cell? ⟨d, 0, none⟩ = some (.map (some mb)) ∧ w'.cell? ⟨n0 + 1, 0, none⟩ = some (.string s) ∧ MapS Tryd.prog sT w' mb (fun t => (G t).map ptrOf) S.count) (ds := [10]) (bs 12 0) (by kernel_rfl) rfl (by kernel_rfl) ⟨E1, E2, E3, E4⟩ (fun hHeld => ?_)
  refine with_tabW rg6_3_tab rg6_3_bits (fun HT_ HW_ => ?_)
  refine tk 0 (some 14) (bs 12 1) HT_ HW_ rfl rfl (by kernel_rfl) (fun _ _ _ _ h => h) hHeld ⟨_, .inl ⟨by rfl, by rintro w' ⟨s0, s1, s2, s3⟩; go_simp; with_reducible rfl⟩, _, by simp only [Act.put, sA, sB, sC, i64_w, i32_w]; rfl, ?_⟩
  refine pu 1 (some 15) (bs 12 3) HT_ rfl rfl (by kernel_rfl) (fun _ _ _ _ h => h) ⟨_, .inl ⟨by rfl, fun _ => by go_simp; with_reducible rfl⟩, _, by simp only [Act.put, sA, sB, sC, i64_w, i32_w]; rfl, ?_⟩
  refine pu 2 (some 16) (bs 12 7) HT_ rfl rfl (by kernel_rfl) (fun _ _ _ _ h => h) ⟨_, .inl ⟨by rfl, fun _ => by go_simp; with_reducible rfl⟩, _, by simp only [Act.put, sA, sB, sC, i64_w, i32_w]; rfl, ?_⟩
  refine tk 3 (some 17) (bs 12 15) HT_ HW_ rfl rfl (by kernel_rfl) (fun _ _ _ _ h => h) hHeld ⟨_, .inl ⟨by rfl, by rintro w' ⟨s0, s1, s2, s3⟩; go_simp; with_reducible rfl⟩, _, by simp only [Act.put, sA, sB, sC, i64_w, i32_w]; rfl, ?_⟩
  refine tk 4 (some 18) (bs 12 31) HT_ HW_ rfl rfl (by kernel_rfl) (fun _ _ _ _ h => h) hHeld ⟨_, .inl ⟨by rfl, by rintro w' ⟨s0, s1, s2, s3⟩; go_simp; with_reducible rfl⟩, _, by simp only [Act.put, sA, sB, sC, i64_w, i32_w]; rfl, ?_⟩
  refine tk 5 (some 19) (bs 12 63) HT_ HW_ rfl rfl (by kernel_rfl) (fun _ _ _ _ h => h) hHeld ⟨_, .inl ⟨by rfl, by rintro w' ⟨s0, s1, s2, s3⟩; exact looks_ (.tmp 17) (.tmp 18) 40 rfl 46 Tryd.underlying9 Tryd.underlying40 (.pointer none) (zero_fp _) mb _ _ rfl s3 s rfl (Nat.le_trans hsz.2 (by decide)) (.pointer none) false (by simp only [HX.out.2.2.1]; rfl) (by simp only [HX.out.2.2.1]; rfl)⟩, _, by simp only [Act.put, sA, sB, sC, i64_w, i32_w]; rfl, ?_⟩
  refine pu 6 (some 13) (bs 12 127) HT_ rfl rfl (by kernel_rfl) (fun _ _ _ _ h => h) ⟨_, .inl ⟨by rfl, fun _ => by go_simp; with_reducible rfl⟩, _, by simp only [Act.put, sA, sB, sC, i64_w, i32_w]; rfl, ?_⟩
  refine pu 7 (some 20) (bs 12 255) HT_ rfl rfl (by kernel_rfl) (fun _ _ _ _ h => h) ⟨_, .inl ⟨by rfl, fun _ => by go_simp; with_reducible rfl⟩, _, by simp only [Act.put, sA, sB, sC, i64_w, i32_w]; rfl, ?_⟩
  refine pu 8 (some 21) (bs 12 511) HT_ rfl rfl (by kernel_rfl) (fun _ _ _ _ h => h) ⟨_, .inl ⟨by rfl, fun _ => by go_simp; with_reducible rfl⟩, _, by simp only [Act.put, sA, sB, sC, i64_w, i32_w]; rfl, ?_⟩
  refine on1 9 (some 7) (bs 12 1023) HT_ rfl rfl (by kernel_rfl) (by decide) (fun K hK => ?_)
  refine allocs_ (z := #[.pointer none]) (t := 46) (by rfl) rfl (by first | (go_simp; done) | (go_simp; rfl)) ?_
  intro gf w1 hgf Gf hb1
  refine hK.out _ _ ⟨cell_below hb1 E1, cell_below hb1 E2, cell_below hb1 E3, E4.same (hb1.block mb E4.lt)⟩ (fun hHeld => ?_)
  clear hK K
  refine nm ⟨_, show Act.put _ (some 7) _ = _ by simp only [Act.put, sA, sB, sC, i64_w, i32_w]; rfl, ?_⟩
  refine la1 10 (none) (bs 12 2047) HT_ rfl rfl (by kernel_rfl) (by decide) (fun K hK => ?_)
  refine store1_ (g := gf) (i := 0) (x := .tmp 7) (y := .tmp 20) (u := .pointer none) (by rfl) rfl rfl rfl rfl rfl Gf (show 0 < 1 by decide) (by kernel_rfl) rfl ?_
  intro w2 G2 hk2 hb2
  refine hK.out _ _ ?_
  clear hK K
  refine pu 11 (some 8) (bs 12 4095) HT_ rfl rfl (by kernel_rfl) (fun _ _ _ _ h => h) ⟨_, .inl ⟨by rfl, fun _ => by go_simp; with_reducible rfl⟩, _, by simp only [Act.put, sA, sB, sC, i64_w, i32_w]; rfl, ?_⟩
  refine done_ (done_of HT_.out (by kernel_rfl)) ?_
  have HGF := Lib.hid hgf
  have HB2 : Below w.heap.size w w2 := hb2 _ _ ((HA.out.1.drew).trans (hb1.mono (Nat.le_trans HA.out.1.size (Nat.le_refl _)))) (by rw [hgf]; exact HA.out.1.size)
  have K2 : ∀ k o, k < W0.heap.size → W0.heap[k]? = some o → w2.heap[k]? = some o := fun k o hk h => (hk2 k (by rw [hgf]; exact Nat.ne_of_lt hk)).trans ((hb1.block k hk).trans h)
  have G0 : w2.heap[n0]? = some (.cells #[.pointer (some ⟨d, 0, none⟩)] 22 (0, 0)) := by rw [HN0.out]; exact K2 _ _ (blkLt HA.out.2.2.1) HA.out.2.2.1
  have G1 : w2.heap[n0 + 1]? = some (.cells #[.string s] 9 (0, 0)) := by rw [HN0.out]; exact K2 _ _ (blkLt HA.out.2.2.2.1) HA.out.2.2.2.1
  have G3 : w2.heap[n0 + 1 + 1]? = some (.cells #[.slice A m c] 28 (0, 0)) := by rw [HN0.out]; exact K2 _ _ (blkLt HA.out.2.2.2.2) HA.out.2.2.2.2
  have HD2 := HX.out.1.below HB2
  have HB3 : Below w.heap.size w (w2.alloc (Obj.cells #[.slice none 0 0, .int .i64 0] fT (0, 0))) := below_alloc HB2 _
  have hgl : gf < w2.heap.size := blkLt G2
  have hlw : w.heap.size ≤ gf := by rw [HGF.out]; exact HA.out.1.size
  have hwf : w.heap.size ≤ w2.heap.size := HB2.size
  obtain ⟨fb, hfb⟩ : ∃ x, x = w2.heap.size := ⟨_, rfl⟩
  have al : ∀ k o, k < w2.heap.size → w2.heap[k]? = some o → (w2.alloc (Obj.cells #[.slice none 0 0, .int .i64 0] fT (0, 0))).heap[k]? = some o := fun k o hk h => (heap_alloc_old _ _ hk).trans h
  have a0 := al _ _ (blkLt G0) G0
  have a1 := al _ _ (blkLt G1) G1
  have a3 := al _ _ (blkLt G3) G3
  have a2 := al _ _ (blkLt G2) G2
  have an : (w2.alloc (Obj.cells #[.slice none 0 0, .int .i64 0] fT (0, 0))).heap[fb]? = some (Obj.cells #[.slice none 0 0, .int .i64 0] fT (0, 0)) := by rw [hfb]; exact heap_alloc_new _ _
  have H2 := Lib.hid (And.intro HB3 (And.intro a0 (And.intro a1 (And.intro a3 (And.intro a2 (And.intro an (And.intro hlw (And.intro hwf hfb))))))))
  clear HB2 HB3 K2 G0 G1 G3 G2 HD2 hb2 hk2 hb1 hgf al a0 a1 a2 a3 an hlw hgl hwf hfb
  go_upto_region 6 with (first
    | ((with_reducible refine wpList_store1 rfl 46 (.tmp 7) (.tmp 25) rfl gf 0 46 #[.pointer none] (.pointer (some ⟨w2.heap.size, 0, none⟩)) ?a1 ?a2 ?a3 ?a4 ?a5 ?a6 ?a7 ?_); (case a1 => rfl); (case a2 => rfl); (case a3 => rfl); (case a4 => exact H2.out.2.2.2.2.1); (case a5 => exact (show 0 < 1 by decide)); (case a6 => kernel_rfl); (case a7 => rfl); intro w3 G4 hk4 hb4 hz4; rw [← H2.out.2.2.2.2.2.2.2.2] at G4))
  have HB3 : Below w.heap.size w w3 := hb4 _ _ H2.out.1 H2.out.2.2.2.2.2.2.1
  have ne0 : ∀ {k t cs}, (w2.alloc (Obj.cells #[.slice none 0 0, .int .i64 0] fT (0, 0))).heap[k]? = some (Obj.cells cs t (0, 0)) → (t == 46) = false → w3.heap[k]? = some (Obj.cells cs t (0, 0)) := fun h ht => (hk4 _ (cells_ne h H2.out.2.2.2.2.1 ht)).trans h
  have G0 := ne0 H2.out.2.1 rfl
  have G1 := ne0 H2.out.2.2.1 rfl
  have G3 := ne0 H2.out.2.2.2.1 rfl
  have G5 := ne0 H2.out.2.2.2.2.2.1 rfl
  have hfb : w.heap.size ≤ fb := by rw [H2.out.2.2.2.2.2.2.2.2]; exact H2.out.2.2.2.2.2.2.2.1
  have H3 := Lib.hid (And.intro HB3 (And.intro G0 (And.intro G1 (And.intro G3 (And.intro G4 (And.intro G5 hfb))))))
  have E1 : w3.drew.cell? ⟨n0 + 1 + 1, 0, none⟩ = some (.slice A m c) := (cell_of_row _ _ 0 _ _ _ G3).trans rfl
  have E2 : w3.drew.cell? ⟨gf, 0, none⟩ = some (.pointer (some ⟨fb, 0, none⟩)) := (cell_of_row _ _ 0 _ _ _ G4).trans rfl
  have E3 : w3.drew.cell? ⟨fb, 0, none⟩ = some (.slice none 0 0) := (cell_of_row _ _ 0 _ _ _ G5).trans rfl
  have E4 : w3.drew.cell? ⟨n0, 0, none⟩ = some (.pointer (some ⟨d, 0, none⟩)) := (cell_of_row _ _ 0 _ _ _ G0).trans rfl
  have HD3 := HX.out.1.below HB3
  have E5 : w3.drew.cell? ⟨d, 0, none⟩ = some (.map (some mb)) := (cell_of_row _ _ 0 _ _ _ HD3.cell).trans rfl
  have E6 : MapS Tryd.prog sT w3.drew mb (fun t => (G t).map ptrOf) S.count := HD3.map.drew
  have C0 : w3.drew.cell? ⟨n0, 0, none⟩ = some (.pointer (some ⟨d, 0, none⟩)) := E4
  clear HB3 ne0 G0 G1 G3 G4 G5 HD3 hk4 hb4 hz4 hfb
  by_cases h6 : (64 : Int) ≤ (S.count : Int)
  · have h61 : decide ((64 : Int) ≤ (S.count : Int)) = true := decide_eq_true h6
    have e1 : appS S s news = (19, S) := by
      unfold appS
      rw [if_neg (by rw [HN.out]; decide), if_pos (HX.out.2.2.2.2.2.2.2 (Or.inl (by omega)))]
    have HE1 := Lib.hid e1
    clear e1
    have HE := Lib.hid (Did.still (errE 19) HX.out.1 H3.out.1.drew)
    refine start_ (n := 21) (S := fun w' => w'.cell? ⟨n0 + 1 + 1, 0, none⟩ = some (.slice A m c) ∧ w'.cell? ⟨gf, 0, none⟩ = some (.pointer (some ⟨fb, 0, none⟩)) ∧ w'.cell? ⟨fb, 0, none⟩ = some (.slice none 0 0) ∧ w'.cell? ⟨n0, 0, none⟩ = some (.pointer (some ⟨d, 0, none⟩)) ∧ w'.cell? ⟨d, 0, none⟩ = some (.map (some mb)) ∧ MapS Tryd.prog sT w' mb (fun t => (G t).map ptrOf) S.count) (ds := []) (bs 21 0) (by kernel_rfl) rfl (by kernel_rfl) ⟨E1, E2, E3, E4, E5, E6⟩ (fun hHeld => ?_)
    refine with_tabW rg6_6_tab rg6_6_bits (fun HT_ HW_ => ?_)
    refine pu 0 (some 26) (bs 21 1) HT_ rfl rfl (by kernel_rfl) (fun _ _ _ _ h => h) ⟨_, .inl ⟨by rfl, fun _ => by go_simp; with_reducible rfl⟩, _, by simp only [Act.put, sA, sB, sC, i64_w, i32_w]; rfl, ?_⟩
    refine pu 1 (some 27) (bs 21 3) HT_ rfl rfl (by kernel_rfl) (fun _ _ _ _ h => h) ⟨_, .inl ⟨by rfl, fun _ => by go_simp; with_reducible rfl⟩, _, by simp only [Act.put, sA, sB, sC, i64_w, i32_w]; rfl, ?_⟩
    refine pu 2 (some 28) (bs 21 7) HT_ rfl rfl (by kernel_rfl) (fun _ _ _ _ h => h) ⟨_, .inl ⟨by rfl, fun _ => by go_simp; with_reducible rfl⟩, _, by simp only [Act.put, sA, sB, sC, i64_w, i32_w]; rfl, ?_⟩
    refine tk 3 (some 29) (bs 21 15) HT_ HW_ rfl rfl (by kernel_rfl) (fun _ _ _ _ h => h) hHeld ⟨_, .inl ⟨by rfl, by rintro w' ⟨s0, s1, s2, s3, s4, s5⟩; go_simp; with_reducible rfl⟩, _, by simp only [Act.put, sA, sB, sC, i64_w, i32_w]; rfl, ?_⟩
    refine pu 4 (some 30) (bs 21 31) HT_ rfl rfl (by kernel_rfl) (fun _ _ _ _ h => h) ⟨_, .inl ⟨by rfl, fun _ => by go_simp; with_reducible rfl⟩, _, by simp only [Act.put, sA, sB, sC, i64_w, i32_w]; rfl, ?_⟩
    refine pu 5 (some 31) (bs 21 63) HT_ rfl rfl (by kernel_rfl) (fun _ _ _ _ h => h) ⟨_, .inl ⟨by rfl, fun _ => by go_simp; with_reducible rfl⟩, _, by simp only [Act.put, sA, sB, sC, i64_w, i32_w]; rfl, ?_⟩
    refine tk 6 (some 32) (bs 21 127) HT_ HW_ rfl rfl (by kernel_rfl) (fun _ _ _ _ h => h) hHeld ⟨_, .inl ⟨by rfl, by rintro w' ⟨s0, s1, s2, s3, s4, s5⟩; go_simp; with_reducible rfl⟩, _, by simp only [Act.put, sA, sB, sC, i64_w, i32_w]; rfl, ?_⟩
    refine tk 7 (some 33) (bs 21 255) HT_ HW_ rfl rfl (by kernel_rfl) (fun _ _ _ _ h => h) hHeld ⟨_, .inl ⟨by rfl, by rintro w' ⟨s0, s1, s2, s3, s4, s5⟩; exact lens_ (.tmp 32) 40 rfl 46 Tryd.underlying40 mb _ _ rfl s5⟩, _, by simp only [Act.put, sA, sB, sC, i64_w, i32_w]; rfl, ?_⟩
    refine pu 8 (some 34) (bs 21 511) HT_ rfl rfl (by kernel_rfl) (fun _ _ _ _ h => h) ⟨_, .inl ⟨by rfl, fun _ => by go_simp; with_reducible rfl⟩, _, by simp only [Act.put, sA, sB, sC, i64_w, i32_w]; rfl, ?_⟩
    refine pu 9 (some 35) (bs 21 1023) HT_ rfl rfl (by kernel_rfl) (fun _ _ _ _ h => h) ⟨_, .inl ⟨by rfl, fun _ => by go_simp; with_reducible rfl⟩, _, by simp only [Act.put, sA, sB, sC, i64_w, i32_w]; rfl, ?_⟩
    refine pu 10 (some 36) (bs 21 2047) HT_ rfl rfl (by kernel_rfl) (fun _ _ _ _ h => h) ⟨_, .inl ⟨by rfl, fun _ => by go_simp; with_reducible rfl⟩, _, by simp only [Act.put, sA, sB, sC, i64_w, i32_w]; rfl, ?_⟩
    refine pu 11 (some 37) (bs 21 4095) HT_ rfl rfl (by kernel_rfl) (fun _ _ _ _ h => h) ⟨_, .inr ⟨by rfl, rfl⟩, _, by simp only [Act.put, sA, sB, sC, i64_w, i32_w]; rfl, ?_⟩
    refine pu 12 (some 38) (bs 21 8191) HT_ rfl rfl (by kernel_rfl) (fun _ _ _ _ h => h) ⟨_, .inr ⟨by rfl, rfl⟩, _, by simp only [Act.put, sA, sB, sC, i64_w, i32_w]; rfl, ?_⟩
    refine pu 13 (some 39) (bs 21 16383) HT_ rfl rfl (by kernel_rfl) (fun _ _ _ _ h => h) ⟨_, .inr ⟨by rfl, rfl⟩, _, by simp only [Act.put, sA, sB, sC, i64_w, i32_w]; rfl, ?_⟩
    refine pu 14 (some 40) (bs 21 32767) HT_ rfl rfl (by kernel_rfl) (fun _ _ _ _ h => h) ⟨_, .inr ⟨by rfl, rfl⟩, _, by simp only [Act.put, sA, sB, sC, i64_w, i32_w]; rfl, ?_⟩
    refine pu 15 (some 41) (bs 21 65535) HT_ rfl rfl (by kernel_rfl) (fun _ _ _ _ h => h) ⟨_, .inr ⟨by rfl, rfl⟩, _, by simp only [Act.put, sA, sB, sC, i64_w, i32_w]; rfl, ?_⟩
    refine pu 16 (some 42) (bs 21 131071) HT_ rfl rfl (by kernel_rfl) (fun _ _ _ _ h => h) ⟨_, .inr ⟨by rfl, rfl⟩, _, by simp only [Act.put, sA, sB, sC, i64_w, i32_w]; rfl, ?_⟩
    refine pu 17 (some 43) (bs 21 262143) HT_ rfl rfl (by kernel_rfl) (fun _ _ _ _ h => h) ⟨_, .inr ⟨by rfl, rfl⟩, _, by simp only [Act.put, sA, sB, sC, i64_w, i32_w]; rfl, ?_⟩
    refine pu 18 (some 44) (bs 21 524287) HT_ rfl rfl (by kernel_rfl) (fun _ _ _ _ h => h) ⟨_, .inr ⟨by rfl, rfl⟩, _, by simp only [Act.put, sA, sB, sC, i64_w, i32_w]; rfl, ?_⟩
    refine pu 19 (some 45) (bs 21 1048575) HT_ rfl rfl (by kernel_rfl) (fun _ _ _ _ h => h) ⟨_, .inr ⟨by rfl, rfl⟩, _, by simp only [Act.put, sA, sB, sC, i64_w, i32_w]; rfl, ?_⟩
    refine pu 20 (some 46) (bs 21 2097151) HT_ rfl rfl (by kernel_rfl) (fun _ _ _ _ h => h) ⟨_, .inl ⟨by rfl, fun _ => by go_simp; with_reducible rfl⟩, _, by simp only [Act.put, sA, sB, sC, i64_w, i32_w]; rfl, ?_⟩
    refine done_ (done_of HT_.out (by kernel_rfl)) ?_
    go_wp2
    go_ret
    rw [HE1.out]
    exact HE.out
  · have h61 : decide ((64 : Int) ≤ (S.count : Int)) = false := decide_eq_false h6
    have hw : wrap64 262144 = 262144 := by unfold wrap64; omega
    by_cases hu : (262144 : Int) < m
    · have hu1 : decide ((262144 : Int) < m) = true := decide_eq_true hu
      have e1 : appS S s news = (19, S) := by
        unfold appS
        rw [if_neg (by rw [HN.out]; decide), if_pos (HX.out.2.2.2.2.2.2.2 (Or.inr hu))]
      have HE1 := Lib.hid e1
      clear e1
      have HE := Lib.hid (Did.still (errE 19) HX.out.1 H3.out.1.drew)
      refine start_ (n := 21) (S := fun w' => w'.cell? ⟨n0 + 1 + 1, 0, none⟩ = some (.slice A m c) ∧ w'.cell? ⟨gf, 0, none⟩ = some (.pointer (some ⟨fb, 0, none⟩)) ∧ w'.cell? ⟨fb, 0, none⟩ = some (.slice none 0 0) ∧ w'.cell? ⟨n0, 0, none⟩ = some (.pointer (some ⟨d, 0, none⟩)) ∧ w'.cell? ⟨d, 0, none⟩ = some (.map (some mb)) ∧ MapS Tryd.prog sT w' mb (fun t => (G t).map ptrOf) S.count) (ds := []) (bs 21 0) (by kernel_rfl) rfl (by kernel_rfl) ⟨E1, E2, E3, E4, E5, E6⟩ (fun hHeld => ?_)
      refine with_tabW rg6_6_tab rg6_6_bits (fun HT_ HW_ => ?_)
      refine pu 0 (some 26) (bs 21 1) HT_ rfl rfl (by kernel_rfl) (fun _ _ _ _ h => h) ⟨_, .inl ⟨by rfl, fun _ => by go_simp; with_reducible rfl⟩, _, by simp only [Act.put, sA, sB, sC, i64_w, i32_w]; rfl, ?_⟩
      refine pu 1 (some 27) (bs 21 3) HT_ rfl rfl (by kernel_rfl) (fun _ _ _ _ h => h) ⟨_, .inl ⟨by rfl, fun _ => by go_simp; with_reducible rfl⟩, _, by simp only [Act.put, sA, sB, sC, i64_w, i32_w]; rfl, ?_⟩
      refine pu 2 (some 28) (bs 21 7) HT_ rfl rfl (by kernel_rfl) (fun _ _ _ _ h => h) ⟨_, .inl ⟨by rfl, fun _ => by go_simp; with_reducible rfl⟩, _, by simp only [Act.put, sA, sB, sC, i64_w, i32_w]; rfl, ?_⟩
      refine tk 3 (some 29) (bs 21 15) HT_ HW_ rfl rfl (by kernel_rfl) (fun _ _ _ _ h => h) hHeld ⟨_, .inl ⟨by rfl, by rintro w' ⟨s0, s1, s2, s3, s4, s5⟩; go_simp; with_reducible rfl⟩, _, by simp only [Act.put, sA, sB, sC, i64_w, i32_w]; rfl, ?_⟩
      refine pu 4 (some 30) (bs 21 31) HT_ rfl rfl (by kernel_rfl) (fun _ _ _ _ h => h) ⟨_, .inl ⟨by rfl, fun _ => by go_simp; with_reducible rfl⟩, _, by simp only [Act.put, sA, sB, sC, i64_w, i32_w]; rfl, ?_⟩
      refine pu 5 (some 31) (bs 21 63) HT_ rfl rfl (by kernel_rfl) (fun _ _ _ _ h => h) ⟨_, .inl ⟨by rfl, fun _ => by go_simp; with_reducible rfl⟩, _, by simp only [Act.put, sA, sB, sC, i64_w, i32_w]; rfl, ?_⟩
      refine tk 6 (some 32) (bs 21 127) HT_ HW_ rfl rfl (by kernel_rfl) (fun _ _ _ _ h => h) hHeld ⟨_, .inl ⟨by rfl, by rintro w' ⟨s0, s1, s2, s3, s4, s5⟩; go_simp; with_reducible rfl⟩, _, by simp only [Act.put, sA, sB, sC, i64_w, i32_w]; rfl, ?_⟩
      refine tk 7 (some 33) (bs 21 255) HT_ HW_ rfl rfl (by kernel_rfl) (fun _ _ _ _ h => h) hHeld ⟨_, .inl ⟨by rfl, by rintro w' ⟨s0, s1, s2, s3, s4, s5⟩; exact lens_ (.tmp 32) 40 rfl 46 Tryd.underlying40 mb _ _ rfl s5⟩, _, by simp only [Act.put, sA, sB, sC, i64_w, i32_w]; rfl, ?_⟩
      refine pu 8 (some 34) (bs 21 511) HT_ rfl rfl (by kernel_rfl) (fun _ _ _ _ h => h) ⟨_, .inl ⟨by rfl, fun _ => by go_simp; with_reducible rfl⟩, _, by simp only [Act.put, sA, sB, sC, i64_w, i32_w]; rfl, ?_⟩
      refine pu 9 (some 35) (bs 21 1023) HT_ rfl rfl (by kernel_rfl) (fun _ _ _ _ h => h) ⟨_, .inl ⟨by rfl, fun _ => by go_simp; with_reducible rfl⟩, _, by simp only [Act.put, sA, sB, sC, i64_w, i32_w]; rfl, ?_⟩
      refine pu 10 (some 36) (bs 21 2047) HT_ rfl rfl (by kernel_rfl) (fun _ _ _ _ h => h) ⟨_, .inl ⟨by rfl, fun _ => by go_simp; with_reducible rfl⟩, _, by simp only [Act.put, sA, sB, sC, i64_w, i32_w]; rfl, ?_⟩
      refine tk 11 (some 37) (bs 21 4095) HT_ HW_ rfl rfl (by kernel_rfl) (fun _ _ _ _ h => h) hHeld ⟨_, .inl ⟨by rfl, by rintro w' ⟨s0, s1, s2, s3, s4, s5⟩; go_simp; with_reducible rfl⟩, _, by simp only [Act.put, sA, sB, sC, i64_w, i32_w]; rfl, ?_⟩
      refine tk 12 (some 38) (bs 21 8191) HT_ HW_ rfl rfl (by kernel_rfl) (fun _ _ _ _ h => h) hHeld ⟨_, .inl ⟨by rfl, by rintro w' ⟨s0, s1, s2, s3, s4, s5⟩; go_simp; with_reducible rfl⟩, _, by simp only [Act.put, sA, sB, sC, i64_w, i32_w]; rfl, ?_⟩
      refine tk 13 (some 39) (bs 21 16383) HT_ HW_ rfl rfl (by kernel_rfl) (fun _ _ _ _ h => h) hHeld ⟨_, .inl ⟨by rfl, by rintro w' ⟨s0, s1, s2, s3, s4, s5⟩; go_simp; with_reducible rfl⟩, _, by simp only [Act.put, sA, sB, sC, i64_w, i32_w]; rfl, ?_⟩
      refine pu 14 (some 40) (bs 21 32767) HT_ rfl rfl (by kernel_rfl) (fun _ _ _ _ h => h) ⟨_, .inl ⟨by rfl, fun _ => by go_simp; with_reducible rfl⟩, _, by simp only [Act.put, sA, sB, sC, i64_w, i32_w]; rfl, ?_⟩
      refine pu 15 (some 41) (bs 21 65535) HT_ rfl rfl (by kernel_rfl) (fun _ _ _ _ h => h) ⟨_, .inl ⟨by rfl, fun _ => by go_simp; with_reducible rfl⟩, _, by simp only [Act.put, sA, sB, sC, i64_w, i32_w]; rfl, ?_⟩
      refine tk 16 (some 42) (bs 21 131071) HT_ HW_ rfl rfl (by kernel_rfl) (fun _ _ _ _ h => h) hHeld ⟨_, .inl ⟨by rfl, by rintro w' ⟨s0, s1, s2, s3, s4, s5⟩; go_simp; with_reducible rfl⟩, _, by simp only [Act.put, sA, sB, sC, i64_w, i32_w]; rfl, ?_⟩
      refine tk 17 (some 43) (bs 21 262143) HT_ HW_ rfl rfl (by kernel_rfl) (fun _ _ _ _ h => h) hHeld ⟨_, .inl ⟨by rfl, by rintro w' ⟨s0, s1, s2, s3, s4, s5⟩; go_simp; with_reducible rfl⟩, _, by simp only [Act.put, sA, sB, sC, i64_w, i32_w]; rfl, ?_⟩
      refine pu 18 (some 44) (bs 21 524287) HT_ rfl rfl (by kernel_rfl) (fun _ _ _ _ h => h) ⟨_, .inl ⟨by rfl, fun _ => by go_simp; with_reducible rfl⟩, _, by simp only [Act.put, sA, sB, sC, i64_w, i32_w]; rfl, ?_⟩
      refine pu 19 (some 45) (bs 21 1048575) HT_ rfl rfl (by kernel_rfl) (fun _ _ _ _ h => h) ⟨_, .inl ⟨by rfl, fun _ => by go_simp; with_reducible rfl⟩, _, by simp only [Act.put, sA, sB, sC, i64_w, i32_w]; rfl, ?_⟩
      refine pu 20 (some 46) (bs 21 2097151) HT_ rfl rfl (by kernel_rfl) (fun _ _ _ _ h => h) ⟨_, .inl ⟨by rfl, fun _ => by go_simp; with_reducible rfl⟩, _, by simp only [Act.put, sA, sB, sC, i64_w, i32_w]; rfl, ?_⟩
      refine done_ (done_of HT_.out (by kernel_rfl)) ?_
      go_wp2
      go_ret
      rw [HE1.out]
      exact HE.out
    · have hu1 : decide ((262144 : Int) < m) = false := decide_eq_false hu
      have hlm : (⟨[], 0⟩ : FileS).bytes.length + news.length ≤ 262144 := by
        have := HM.out
        simp only [List.length_nil]
        omega
      have e1 : appS S s news = if S.left = 0 then (30, S) else (0, S.step.put s ⟨(⟨[], 0⟩ : FileS).bytes ++ news, 0⟩) := by
        unfold appS
        rw [if_neg (by rw [HN.out]; decide), if_neg (fun h => (HX.out.2.2.2.2.2.2.1 h).elim (fun h => h6 (by omega)) hu), HX.out.2.2.2.2.2.1]
      have HOP := Lib.hid (append1_op w w3.drew base d mb gf (n0 + 1 + 1) n0 (n0 + 1) fb G S s (.slice none 0 0) (.slice A m c) ⟨[], 0⟩ news HX.out.1 HX.out.2.1 H3.out.1.drew H3.out.2.2.2.2.1 H3.out.2.2.2.1 H3.out.2.1 H3.out.2.2.1 ⟨H3.out.2.2.2.2.2.1, BytesAt.nil _ _ _⟩ (Or.inr ⟨HX.out.2.2.1, H3.out.2.2.2.2.2.2, rfl⟩) HX.out.2.2.2.2.1 hlm hsz.2 hbase)
      have HDO := Lib.hid (do_did d mb S.ops S.left 22 Tryd.f22 Tryd.func22 rfl rfl #[.pointer (some ⟨gf, 0, none⟩), .pointer (some ⟨n0 + 1 + 1, 0, none⟩), .pointer (some ⟨n0, 0, none⟩), .pointer (some ⟨n0 + 1, 0, none⟩)] w3.drew (HX.out.1.below H3.out.1.drew).cell HX.out.2.1.ops HX.out.2.1.left _ (fun _ => HOP.out))
      have HE := Lib.hid (Did.still (errE 30) HX.out.1 H3.out.1.drew)
      have HE1 := Lib.hid e1
      clear e1 hlm
      refine start_ (n := 21) (S := fun w' => w'.cell? ⟨n0 + 1 + 1, 0, none⟩ = some (.slice A m c) ∧ w'.cell? ⟨gf, 0, none⟩ = some (.pointer (some ⟨fb, 0, none⟩)) ∧ w'.cell? ⟨fb, 0, none⟩ = some (.slice none 0 0) ∧ w'.cell? ⟨n0, 0, none⟩ = some (.pointer (some ⟨d, 0, none⟩)) ∧ w'.cell? ⟨d, 0, none⟩ = some (.map (some mb)) ∧ MapS Tryd.prog sT w' mb (fun t => (G t).map ptrOf) S.count) (ds := []) (bs 21 0) (by kernel_rfl) rfl (by kernel_rfl) ⟨E1, E2, E3, E4, E5, E6⟩ (fun hHeld => ?_)
      refine with_tabW rg6_6_tab rg6_6_bits (fun HT_ HW_ => ?_)
      refine pu 0 (some 26) (bs 21 1) HT_ rfl rfl (by kernel_rfl) (fun _ _ _ _ h => h) ⟨_, .inl ⟨by rfl, fun _ => by go_simp; with_reducible rfl⟩, _, by simp only [Act.put, sA, sB, sC, i64_w, i32_w]; rfl, ?_⟩
      refine pu 1 (some 27) (bs 21 3) HT_ rfl rfl (by kernel_rfl) (fun _ _ _ _ h => h) ⟨_, .inl ⟨by rfl, fun _ => by go_simp; with_reducible rfl⟩, _, by simp only [Act.put, sA, sB, sC, i64_w, i32_w]; rfl, ?_⟩
      refine pu 2 (some 28) (bs 21 7) HT_ rfl rfl (by kernel_rfl) (fun _ _ _ _ h => h) ⟨_, .inl ⟨by rfl, fun _ => by go_simp; with_reducible rfl⟩, _, by simp only [Act.put, sA, sB, sC, i64_w, i32_w]; rfl, ?_⟩
      refine tk 3 (some 29) (bs 21 15) HT_ HW_ rfl rfl (by kernel_rfl) (fun _ _ _ _ h => h) hHeld ⟨_, .inl ⟨by rfl, by rintro w' ⟨s0, s1, s2, s3, s4, s5⟩; go_simp; with_reducible rfl⟩, _, by simp only [Act.put, sA, sB, sC, i64_w, i32_w]; rfl, ?_⟩
      refine pu 4 (some 30) (bs 21 31) HT_ rfl rfl (by kernel_rfl) (fun _ _ _ _ h => h) ⟨_, .inl ⟨by rfl, fun _ => by go_simp; with_reducible rfl⟩, _, by simp only [Act.put, sA, sB, sC, i64_w, i32_w]; rfl, ?_⟩
      refine pu 5 (some 31) (bs 21 63) HT_ rfl rfl (by kernel_rfl) (fun _ _ _ _ h => h) ⟨_, .inl ⟨by rfl, fun _ => by go_simp; with_reducible rfl⟩, _, by simp only [Act.put, sA, sB, sC, i64_w, i32_w]; rfl, ?_⟩
      refine tk 6 (some 32) (bs 21 127) HT_ HW_ rfl rfl (by kernel_rfl) (fun _ _ _ _ h => h) hHeld ⟨_, .inl ⟨by rfl, by rintro w' ⟨s0, s1, s2, s3, s4, s5⟩; go_simp; with_reducible rfl⟩, _, by simp only [Act.put, sA, sB, sC, i64_w, i32_w]; rfl, ?_⟩
      refine tk 7 (some 33) (bs 21 255) HT_ HW_ rfl rfl (by kernel_rfl) (fun _ _ _ _ h => h) hHeld ⟨_, .inl ⟨by rfl, by rintro w' ⟨s0, s1, s2, s3, s4, s5⟩; exact lens_ (.tmp 32) 40 rfl 46 Tryd.underlying40 mb _ _ rfl s5⟩, _, by simp only [Act.put, sA, sB, sC, i64_w, i32_w]; rfl, ?_⟩
      refine pu 8 (some 34) (bs 21 511) HT_ rfl rfl (by kernel_rfl) (fun _ _ _ _ h => h) ⟨_, .inl ⟨by rfl, fun _ => by go_simp; with_reducible rfl⟩, _, by simp only [Act.put, sA, sB, sC, i64_w, i32_w]; rfl, ?_⟩
      refine pu 9 (some 35) (bs 21 1023) HT_ rfl rfl (by kernel_rfl) (fun _ _ _ _ h => h) ⟨_, .inl ⟨by rfl, fun _ => by go_simp; with_reducible rfl⟩, _, by simp only [Act.put, sA, sB, sC, i64_w, i32_w]; rfl, ?_⟩
      refine pu 10 (some 36) (bs 21 2047) HT_ rfl rfl (by kernel_rfl) (fun _ _ _ _ h => h) ⟨_, .inl ⟨by rfl, fun _ => by go_simp; with_reducible rfl⟩, _, by simp only [Act.put, sA, sB, sC, i64_w, i32_w]; rfl, ?_⟩
      refine tk 11 (some 37) (bs 21 4095) HT_ HW_ rfl rfl (by kernel_rfl) (fun _ _ _ _ h => h) hHeld ⟨_, .inl ⟨by rfl, by rintro w' ⟨s0, s1, s2, s3, s4, s5⟩; go_simp; with_reducible rfl⟩, _, by simp only [Act.put, sA, sB, sC, i64_w, i32_w]; rfl, ?_⟩
      refine tk 12 (some 38) (bs 21 8191) HT_ HW_ rfl rfl (by kernel_rfl) (fun _ _ _ _ h => h) hHeld ⟨_, .inl ⟨by rfl, by rintro w' ⟨s0, s1, s2, s3, s4, s5⟩; go_simp; with_reducible rfl⟩, _, by simp only [Act.put, sA, sB, sC, i64_w, i32_w]; rfl, ?_⟩
      refine tk 13 (some 39) (bs 21 16383) HT_ HW_ rfl rfl (by kernel_rfl) (fun _ _ _ _ h => h) hHeld ⟨_, .inl ⟨by rfl, by rintro w' ⟨s0, s1, s2, s3, s4, s5⟩; go_simp; with_reducible rfl⟩, _, by simp only [Act.put, sA, sB, sC, i64_w, i32_w]; rfl, ?_⟩
      refine pu 14 (some 40) (bs 21 32767) HT_ rfl rfl (by kernel_rfl) (fun _ _ _ _ h => h) ⟨_, .inl ⟨by rfl, fun _ => by go_simp; with_reducible rfl⟩, _, by simp only [Act.put, sA, sB, sC, i64_w, i32_w]; rfl, ?_⟩
      refine pu 15 (some 41) (bs 21 65535) HT_ rfl rfl (by kernel_rfl) (fun _ _ _ _ h => h) ⟨_, .inl ⟨by rfl, fun _ => by go_simp; with_reducible rfl⟩, _, by simp only [Act.put, sA, sB, sC, i64_w, i32_w]; rfl, ?_⟩
      refine tk 16 (some 42) (bs 21 131071) HT_ HW_ rfl rfl (by kernel_rfl) (fun _ _ _ _ h => h) hHeld ⟨_, .inl ⟨by rfl, by rintro w' ⟨s0, s1, s2, s3, s4, s5⟩; go_simp; with_reducible rfl⟩, _, by simp only [Act.put, sA, sB, sC, i64_w, i32_w]; rfl, ?_⟩
      refine tk 17 (some 43) (bs 21 262143) HT_ HW_ rfl rfl (by kernel_rfl) (fun _ _ _ _ h => h) hHeld ⟨_, .inl ⟨by rfl, by rintro w' ⟨s0, s1, s2, s3, s4, s5⟩; go_simp; with_reducible rfl⟩, _, by simp only [Act.put, sA, sB, sC, i64_w, i32_w]; rfl, ?_⟩
      refine pu 18 (some 44) (bs 21 524287) HT_ rfl rfl (by kernel_rfl) (fun _ _ _ _ h => h) ⟨_, .inl ⟨by rfl, fun _ => by go_simp; with_reducible rfl⟩, _, by simp only [Act.put, sA, sB, sC, i64_w, i32_w]; rfl, ?_⟩
      refine pu 19 (some 45) (bs 21 1048575) HT_ rfl rfl (by kernel_rfl) (fun _ _ _ _ h => h) ⟨_, .inl ⟨by rfl, fun _ => by go_simp; with_reducible rfl⟩, _, by simp only [Act.put, sA, sB, sC, i64_w, i32_w]; rfl, ?_⟩
      refine pu 20 (some 46) (bs 21 2097151) HT_ rfl rfl (by kernel_rfl) (fun _ _ _ _ h => h) ⟨_, .inl ⟨by rfl, fun _ => by go_simp; with_reducible rfl⟩, _, by simp only [Act.put, sA, sB, sC, i64_w, i32_w]; rfl, ?_⟩
      refine done_ (done_of HT_.out (by kernel_rfl)) ?_
      go_wp2_with (go_at_call 21; (with_reducible refine HDO.out.mono ?_); rintro e w4 ⟨k4, rfl, h4⟩; have H4 := Lib.hid h4; clear h4)
      go_ret
      rcases H4.out with ⟨h0, rfl, rfl⟩ | ⟨h0, rfl, hq⟩
      · rw [HE1.out, if_pos h0]
        exact HE.out
      · rw [HE1.out, if_neg h0]
        exact ⟨rfl, hq⟩
end DevE
theorem append_calls (w : World) (base d mb : Nat) (G : ByteArray → Option (Nat × Value)) (S : DevS) (s : ByteArray) (bv : Value) (news : List Int) (hD : DevG w base d mb G S) (hF : Fine S) (hR : ReadB w (OwnD d mb G) bv news) (hlen : news.length ≤ 1000000) (hbase : base ≤ w.heap.size) :
    Calls Tryd.prog 6 #[.pointer (some ⟨d, 0, none⟩), .string s, bv] w (Did w base d mb G (errV (appS S s news).1) (appS S s news).2) := by
  obtain ⟨A, c, rfl⟩ := hR.form
  cases hn : nameOk s with
  | false => exact append_bad w base d mb G S s A _ c news hD hn
  | true =>
    cases hG : G s with
    | none => exact DevE.append_new w base d mb G S s A c news hD hF hG hR hlen hbase hn
    | some p =>
      obtain ⟨f, hf, _⟩ := hD.file s p hG
      exact append_have w base d mb G S s A c news p f hD hF hG hf hR hlen hbase hn
theorem Fine.app {S : DevS} (h : Fine S) (s : ByteArray) (b : List Int) (ho : S.ops < 4611686018427387904) : Fine (appS S s b).2 := by
  unfold appS
  split
  · exact h
  · split
    · exact h
    · split
      · exact h
      · rename_i h1 h2 h3
        have h4 : ¬ (S.file s = none ∧ 64 ≤ S.count) := fun e => h2 (Or.inl e)
        have h5 : ¬ (262144 < (S.got s).bytes.length + b.length) := fun e => h2 (Or.inr e)
        refine ⟨?_, fun t f hf => ?_, ?_, ?_⟩
        · show (if (S.file s).isSome then S.count else S.count + 1) ≤ 64
          have := h.count
          cases hs : S.file s with
          | none => simp only [hs, true_and] at h4; simp; omega
          | some f => simpa using this
        · replace hf : (if t = s then some ⟨(S.got s).bytes ++ b, (S.got s).synced⟩ else S.file t) = some f := hf
          by_cases ht : t = s
          · rw [if_pos ht] at hf
            obtain rfl := Option.some.inj hf
            simp only [List.length_append]
            refine ⟨by omega, ?_⟩
            cases hs : S.file s with
            | none => simp [DevS.got, hs]
            | some f =>
              have := h.file s f hs
              simp [DevS.got, hs]
              omega
          · rw [if_neg ht] at hf
            exact h.file t f hf
        · have := h.ops
          show 0 ≤ S.ops + 1 ∧ S.ops + 1 ≤ _
          omega
        · have := h.left
          show -1 ≤ lessL S.left ∧ lessL S.left ≤ _
          unfold lessL
          split <;> omega
end Go.Proofs.YtnmbkaccoaeijaaDoor

/- The device's methods walked: on, Sync, Cut, Operations, New. -/
namespace Go.Proofs.YtnmbkaccoaeijaaDoor
open Go.RowKit Go.Proofs.YtnmbkaccoaeijaaDoorW.PrintWords Go.Proofs.YtnmbkaccoaeijaaDoorW.PrintLast
set_option maxHeartbeats 2000000 in
set_option maxRecDepth 100000 in
theorem on1_calls (w : World) (ob fx fb : Nat) (g : FuncId) (gn : Func) (hg : Tryd.prog.funcs[g]? = some gn) (hname : (gn.name == "runtime.NumGoroutine") = false) (hbody : gn.body.isSome = true) (cap : Array Value) (ho : w.heap[ob]? = some (.cells #[.func (.func g) #[] cap] 52 (0, 0))) (hf : w.heap[fx]? = some (.cells #[.pointer (some ⟨fb, 0, none⟩)] 46 (0, 0))) (Q : World → Prop)
    (h : Calls Tryd.prog g (#[.pointer (some ⟨fb, 0, none⟩)] ++ cap) w fun e w' => (∃ v, e = .returned v) ∧ Q w') :
    Calls Tryd.prog 34 #[.pointer (some ⟨ob, 0, none⟩), .pointer (some ⟨fx, 0, none⟩)] w fun e w' => (∃ v, e = .returned v) ∧ Q w' := by
  have c1 : w.cell? ⟨ob, 0, none⟩ = some (.func (.func g) #[] cap) := (cell_of_row _ _ 0 _ _ _ ho).trans rfl
  have c2 : w.cell? ⟨fx, 0, none⟩ = some (.pointer (some ⟨fb, 0, none⟩)) := (cell_of_row _ _ 0 _ _ _ hf).trans rfl
  have H := Lib.hid (And.intro hg (And.intro hname (And.intro hbody h)))
  clear hg hname hbody h ho hf
  go_enter Tryd.func34, Tryd.ntmps34
  go_wp2_with (refine goesvL_ (some 4) rfl rfl H.out.1 H.out.2.1 H.out.2.2.1 (#[.pointer (some ⟨fb, 0, none⟩)] ++ cap) rfl rfl (by simp only [Array.empty_append, List.map_toArray, List.map_cons, List.map_nil]; rfl) ?_; refine H.out.2.2.2.mono ?_; rintro e w3 ⟨⟨v, rfl⟩, hq⟩; refine ⟨v, rfl, ?_⟩; have HQ := Lib.hid hq; clear hq)
  exact ⟨rfl, .tuple #[], by simp [results, Tryd.results34], ⟨_, rfl⟩, HQ.out⟩
set_option maxHeartbeats 4000000 in
set_option maxRecDepth 100000 in
theorem on_none (w : World) (base d mb : Nat) (G : ByteArray → Option (Nat × Value)) (S : DevS) (s : ByteArray) (g : FuncId) (cap : Array Value) (hD : DevG w base d mb G S) (hG : G s = none) (hs : s.size ≤ maxLen) :
    Calls Tryd.prog 23 #[.pointer (some ⟨d, 0, none⟩), .string s, .func (.func g) #[] cap] w fun e w' => e = .returned (errV 10) ∧ Below w.heap.size w w' := by
  have b1 := below_alloc (Below.refl w.heap.size w) (Obj.cells #[.func (.func g) #[] cap] 52 (0, 0))
  have hD0 := hD.below b1
  have C0 : (w.alloc (Obj.cells #[.func (.func g) #[] cap] 52 (0, 0))).cell? ⟨d, 0, none⟩ = some (.map (some mb)) := (cell_of_row _ _ 0 _ _ _ hD0.cell).trans rfl
  have HD := Lib.hid (And.intro hD0 (And.intro hG b1))
  clear hD hG b1 hD0
  go_enter Tryd.func23, Tryd.ntmps23
  go_upto_region 1 with (fail)
  generalize hE : w.alloc _ = W0 at C0 HD ⊢
  have HZ : Hid (W0.heap.size = w.heap.size + 1) := Lib.hid (by rw [← hE]; simp)
  clear hE
  go_wp2_with (first
    | (refine wpList_pure rfl (.tuple #[.pointer none, .bool false]) (looks_ (.tmp 13) (.tmp 14) 40 rfl 46 Tryd.underlying9 Tryd.underlying40 (.pointer none) (zero_fp _) mb _ _ rfl HD.out.1.map s rfl hs (.pointer none) false (by simp only [HD.out.2.1]; rfl) (by simp only [HD.out.2.1]; rfl)) ?_)
    | ((with_reducible refine wpList_store1 rfl 46 (.tmp 7) (.tmp 16) rfl W0.heap.size 0 46 #[.pointer none] (.pointer none) ?a1 ?a2 ?a3 ?a4 ?a5 ?a6 ?a7 ?_); (case a1 => rfl); (case a2 => rfl); (case a3 => rfl); (case a4 => exact heap_alloc_new W0 _); (case a5 => exact (show 0 < 1 by decide)); (case a6 => kernel_rfl); (case a7 => rfl); intro w3 G4 hk4 hb4 hz4; have HB4 := Lib.hid (hb4 w.heap.size w (below_alloc HD.out.2.2 _) (by rw [HZ.out]; omega)); clear hk4 hb4 hz4))
  go_ret
  exact ⟨by trivial, HB4.out⟩
set_option maxHeartbeats 4000000 in
set_option maxRecDepth 100000 in
theorem on_some (w : World) (base d mb : Nat) (G : ByteArray → Option (Nat × Value)) (S : DevS) (s : ByteArray) (p : Nat × Value) (g : FuncId) (gn : Func) (hg : Tryd.prog.funcs[g]? = some gn) (hname : (gn.name == "runtime.NumGoroutine") = false) (hbody : gn.body.isSome = true) (cap : Array Value) (hD : DevG w base d mb G S) (hF : Fine S) (hG : G s = some p) (hs : s.size ≤ maxLen) (Q : World → Prop)
    (hop : ∀ w1, DevG w1 base d mb G S.step → Only (OwnD d mb G) w w1 → Calls Tryd.prog g (#[.pointer (some ⟨p.1, 0, none⟩)] ++ cap) w1 fun e w' => (∃ v, e = .returned v) ∧ Q w') :
    Calls Tryd.prog 23 #[.pointer (some ⟨d, 0, none⟩), .string s, .func (.func g) #[] cap] w fun e w' => ∃ k, e = .returned (errV k) ∧ ((S.left = 0 ∧ k = 30 ∧ Below w.heap.size w w') ∨ (S.left ≠ 0 ∧ k = 0 ∧ Q w')) := by
  have b1 := below_alloc (Below.refl w.heap.size w) (Obj.cells #[.func (.func g) #[] cap] 52 (0, 0))
  have hD0 := hD.below b1
  have C0 : (w.alloc (Obj.cells #[.func (.func g) #[] cap] 52 (0, 0))).cell? ⟨d, 0, none⟩ = some (.map (some mb)) := (cell_of_row _ _ 0 _ _ _ hD0.cell).trans rfl
  have hob := heap_alloc_new w (Obj.cells #[.func (.func g) #[] cap] 52 (0, 0))
  have HD := Lib.hid (And.intro hD0 (And.intro hG (And.intro b1 hob)))
  obtain ⟨fb, v⟩ := p
  have HOP := Lib.hid (And.intro hop (And.intro hg (And.intro hname (And.intro hbody hD))))
  have HF := Lib.hid hF
  clear hD hG b1 hD0 hob hop hg hname hbody hF
  go_enter Tryd.func23, Tryd.ntmps23
  go_upto_region 1 with (fail)
  generalize hE : w.alloc _ = W0 at C0 HD ⊢
  have HZ : Hid (W0.heap.size = w.heap.size + 1) := Lib.hid (by rw [← hE]; simp)
  clear hE
  go_upto_region 4 with (first
    | (refine wpList_pure rfl (.tuple #[.pointer (some ⟨fb, 0, none⟩), .bool true]) (looks_ (.tmp 13) (.tmp 14) 40 rfl 46 Tryd.underlying9 Tryd.underlying40 (.pointer none) (zero_fp _) mb _ _ rfl HD.out.1.map s rfl hs (.pointer (some ⟨fb, 0, none⟩)) true (by simp only [HD.out.2.1]; rfl) (by simp only [HD.out.2.1]; rfl)) ?_)
    | ((with_reducible refine wpList_store1 rfl 46 (.tmp 7) (.tmp 16) rfl W0.heap.size 0 46 #[.pointer none] (.pointer (some ⟨fb, 0, none⟩)) ?a1 ?a2 ?a3 ?a4 ?a5 ?a6 ?a7 ?_); (case a1 => rfl); (case a2 => rfl); (case a3 => rfl); (case a4 => exact heap_alloc_new W0 _); (case a5 => exact (show 0 < 1 by decide)); (case a6 => kernel_rfl); (case a7 => rfl); intro w3 G4 hk4 hb4 hz4; have HB4 := Lib.hid (And.intro (hb4 w.heap.size w (below_alloc HD.out.2.2.1 _) (by rw [HZ.out]; omega)) (And.intro G4 ((hk4 w.heap.size (by rw [HZ.out]; omega)).trans ((heap_alloc_old W0 _ (by rw [HZ.out]; omega)).trans HD.out.2.2.2)))); clear hk4 hb4 hz4 G4))
  have HDO := Lib.hid (do_did d mb S.ops S.left 34 Tryd.f34 Tryd.func34 rfl rfl #[.pointer (some ⟨w.heap.size, 0, none⟩), .pointer (some ⟨W0.heap.size, 0, none⟩)] w3 (HOP.out.2.2.2.2.below HB4.out.1).cell HF.out.ops HF.out.left Q (fun hl w1 hc ho => by
    have hD3 := HOP.out.2.2.2.2.below HB4.out.1
    have hD1 : DevG w1 base d mb G S.step := hD3.count hc (fun k hk hkd => ho.block k hk hkd)
    have o1 : Only (OwnD d mb G) w w1 := (Only.of_below HB4.out.1).trans (ho.mono (fun k _ e => Or.inl e))
    have k1 := HB4.out.2.2
    have k2 := HB4.out.2.1
    refine on1_calls w1 w.heap.size W0.heap.size fb g gn HOP.out.2.1 HOP.out.2.2.1 HOP.out.2.2.2.1 cap ?_ ?_ Q (HOP.out.1 w1 hD1 o1)
    · exact (ho.block _ (blkLt k1) (cells_ne k1 hD3.cell (by decide))).trans k1
    · exact (ho.block _ (blkLt k2) (cells_ne k2 hD3.cell (by decide))).trans k2))
  go_wp2_with (go_at_call 21; (with_reducible refine HDO.out.mono ?_); rintro e w4 ⟨k4, rfl, h4⟩; have H4 := Lib.hid h4; clear h4)
  go_ret
  refine ⟨k4, rfl, ?_⟩
  rcases H4.out with ⟨h0, rfl, rfl⟩ | ⟨h0, rfl, hq⟩
  · exact Or.inl ⟨h0, rfl, HB4.out.1⟩
  · exact Or.inr ⟨h0, rfl, hq⟩
end Go.Proofs.YtnmbkaccoaeijaaDoor

/- Rows of bytes: held against each other (SameBytes), copied (slices.Clone). -/
namespace Go.Proofs.YtnmbkaccoaeijaaDoor
open Go.RowKit Go.Proofs.YtnmbkaccoaeijaaDoorW.PrintWords Go.Proofs.YtnmbkaccoaeijaaDoorW.PrintLast
def RowB (w : World) (v : Value) (bs : List Int) : Prop := ∃ A c, v = .slice A bs.length c ∧ ∀ (j : Nat) (x : Int), bs[j]? = some x → ∃ a, A = some a ∧ w.cell? (a.add j) = some (bc x)
theorem ReadB.row {w : World} {own : Nat → Prop} {v : Value} {bs : List Int} (h : ReadB w own v bs) : RowB w v bs := by
  rcases h with ⟨rfl, rfl⟩ | ⟨a, c, rfl, _, h⟩
  · exact ⟨none, 0, rfl, fun j x hx => by simp at hx⟩
  · exact ⟨some a, c, rfl, fun j x hx => ⟨a, rfl, h j (bc x) (by rw [List.getElem?_map, hx]; rfl)⟩⟩
theorem BytesAt.row {e : TypeId} {w : World} {base : Nat} {v : Value} {bs : List Int} (h : BytesAt e w base v bs) : RowB w v bs := by
  obtain ⟨A, c, rfl, _⟩ := h.form
  refine ⟨A, c, rfl, fun j x hx => ?_⟩
  obtain ⟨g, rfl, hc⟩ := (h.cells rfl).2 j x hx
  exact ⟨_, rfl, by rw [add_lit0]; exact hc⟩
theorem RowB.below {w w' : World} {v : Value} {bs : List Int} (h : RowB w v bs) (hb : Below w.heap.size w w') : RowB w' v bs := by
  obtain ⟨A, c, rfl, h⟩ := h
  refine ⟨A, c, rfl, fun j x hx => ?_⟩
  obtain ⟨a, rfl, hc⟩ := h j x hx
  exact ⟨a, rfl, cell_below hb hc⟩
theorem RowB.drew {w : World} {v : Value} {bs : List Int} (h : RowB w v bs) : RowB w.drew v bs := h
set_option maxHeartbeats 2000000 in
set_option maxRecDepth 100000 in
theorem sameBytes_calls {w : World} {v u : Value} {a b : List Int} (h : RowB w v a) (g : RowB w u b) (hl : a.length ≤ 1000000) (hl2 : b.length ≤ 1000000) :
    Calls Tryd.prog 25 #[v, u] w fun e w' => e = .returned (.bool (decide (a = b))) ∧ Below w.heap.size w w' := by
  obtain ⟨A, c, rfl, h⟩ := h
  obtain ⟨B, c', rfl, g⟩ := g
  obtain ⟨n, hn⟩ : ∃ k, k = a.length := ⟨_, rfl⟩
  obtain ⟨m, hm⟩ : ∃ k, k = b.length := ⟨_, rfl⟩
  rw [← hn, ← hm]
  by_cases hnm : n = m
  · subst hnm
    have H := Lib.hid (And.intro h (And.intro g (And.intro hn hm)))
    have hl3 : n ≤ 1000000 := by omega
    clear h g hn hm
    go_enter Tryd.func25, Tryd.ntmps25
    go_wp2
    go_loopw [5] (fun v5 wr => ∃ k : Nat, v5 = .int .i64 k ∧ k ≤ n ∧ Hid (a.take k = b.take k) ∧ Below w.heap.size w wr) (fun v5 _ => n - (intOf v5).toNat)
    case atStart => exact ⟨0, rfl, Nat.zero_le _, Lib.hid rfl, Below.refl _ _⟩
    case round =>
      obtain ⟨k, rfl, hk, hT, hB⟩ := hrel
      by_cases hlt : k < n
      · obtain ⟨x, hx⟩ : ∃ x, a[k]? = some x := ⟨_, List.getElem?_eq_getElem (by have := H.out.2.2.1; omega)⟩
        obtain ⟨y, hy⟩ : ∃ y, b[k]? = some y := ⟨_, List.getElem?_eq_getElem (by have := H.out.2.2.2; omega)⟩
        obtain ⟨g1, rfl, c1⟩ := H.out.1 k x hx
        obtain ⟨g2, rfl, c2⟩ := H.out.2.1 k y hy
        have d1 : wr.cell? (g1.add k) = some (.int .u8 x) := cell_below hB c1
        have d2 : wr.cell? (g2.add k) = some (.int .u8 y) := cell_below hB c2
        have HXY := Lib.hid (And.intro hx hy)
        clear hx hy c1 c2
        by_cases hxy : x = y
        · subst hxy
          go_upto_region 6 with (fail)
          go_quiet (fail)
          go_wp2
          go_roundw
          case rel => exact ⟨k + 1, by go_num, by omega, Lib.hid (by rw [List.take_add_one, List.take_add_one, HXY.out.1, HXY.out.2, hT.out]), pw_below_drewN hB _⟩
          case measure => simp [intOf]; omega
        · have hne : (x == y) = false := beq_eq_false_iff_ne.2 hxy
          have hab : decide (a = b) = false := decide_eq_false (fun e => hxy (by have := HXY.out; rw [e, this.2] at this; exact (Option.some.inj this.1).symm))
          have HAB := Lib.hid hab
          clear hab hxy
          go_upto_region 6 with (fail)
          go_quiet (fail)
          go_wp2
          go_ret
          exact ⟨by rw [HAB.out]; rfl, by first | exact hB | exact pw_below_drewN hB _⟩
      · have hab : decide (a = b) = true := decide_eq_true (by
          have := hT.out
          rwa [List.take_of_length_le (by have := H.out.2.2.1; omega), List.take_of_length_le (by have := H.out.2.2.2; omega)] at this)
        have HAB := Lib.hid hab
        clear hab
        go_wp2
        go_ret
        exact ⟨by rw [HAB.out]; rfl, by first | exact hB | exact pw_below_drewN hB _⟩
  · have hab : decide (a = b) = false := decide_eq_false (fun e => hnm (by rw [hn, hm, e]))
    have hne : ((n : Int) == (m : Int)) = false := beq_eq_false_iff_ne.2 (fun e => hnm (by omega))
    have HAB := Lib.hid hab
    clear hab h g hn hm
    go_enter Tryd.func25, Tryd.ntmps25
    go_wp2
    go_ret
    exact ⟨by rw [HAB.out]; rfl, Below.refl _ _⟩
end Go.Proofs.YtnmbkaccoaeijaaDoor

/- The device's methods walked: Sync, Cut, Operations, New, Read; slices.Clone of bytes. -/
namespace Go.Proofs.YtnmbkaccoaeijaaDoor
open Go.RowKit Go.Proofs.YtnmbkaccoaeijaaDoorW.PrintWords Go.Proofs.YtnmbkaccoaeijaaDoorW.PrintLast
section
variable {P : Program} {ops : Array Oper} {Q : Exit → Act → World → Prop}
theorem wpList_appB {rest : List Oper} {oi : Oper} {a : Act} {w w1 : World} {v' : Value} (hg : oi.guard = none) (x y : Operand) (t : TypeId) (ho : oi.op = .call { callee := .builtin .append, args := #[x, y], argTypes := #[t, t] }) (v bv : Value) (hx : a.eval x = v) (hy : a.eval y = bv)
    (hrun : (Builtin.append_ #[t, t] oi.type #[v, bv]).run P w = .ok v' w1) (h : wpList P ops Q rest (a.put oi.dst v') w1) : wpList P ops Q (oi :: rest) a w :=
  wpList_value hg v' (by
    unfold execOp
    simp [ho, resolve, invoke, builtin, hx, hy, hrun, Result.andThen]) h
end
set_option maxHeartbeats 2000000 in
set_option maxRecDepth 100000 in
theorem cloneB_calls {w : World} {base : Nat} {v : Value} {bs : List Int} (h : BytesAt bT w base v bs) (hl : bs.length ≤ 1000000) :
    Calls Tryd.prog 31 #[v] w fun e w' => ∃ v', e = .returned v' ∧ BytesAt bT w' w.heap.size v' bs ∧ Below w.heap.size w w' := by
  rcases id h with ⟨rfl, rfl⟩ | ⟨g, cap, cur, rfl, hb, hh, hc, hm, hx, ht⟩
  · have q1 := fun (W : World) => Lib.run_eql_slice_nil (P := Tryd.prog) W 28 5 none 0 0 0 0 Tryd.underlying28
    go_enter Tryd.func31, Tryd.ntmps31
    go_wp2
    go_ret
    exact ⟨_, rfl, BytesAt.nil _ _ _, Below.refl _ _⟩
  · have hw0 : BytesAt bT (w.alloc (Obj.cells #[] bT (0, 0))) w.heap.size (.slice (some ⟨w.heap.size, 0, none⟩) ([] : List Int).length 0) [] := Or.inr ⟨w.heap.size, 0, #[], rfl, Nat.le_refl _, heap_alloc_new _ _, Nat.le_refl _, Nat.le_refl _, Nat.zero_le _, rfl⟩
    have hR : ReadB (w.alloc (Obj.cells #[] bT (0, 0))) (fun _ => False) (.slice (some ⟨g, 0, none⟩) bs.length cap) bs := Or.inr ⟨⟨g, 0, none⟩, cap, rfl, fun _ => ⟨fun e => e, by simp; exact Nat.lt_succ_of_lt (Array.getElem?_eq_some_iff.1 hh).1⟩, fun j u hu => by
      rw [List.getElem?_map] at hu
      obtain ⟨x, hx, rfl⟩ := Option.map_eq_some_iff.1 hu
      obtain ⟨g', e, hcc⟩ := (h.cells rfl).2 j x hx
      obtain rfl : g = g' := by injection e with e; injection e
      rw [add_lit0]
      exact cell_below (below_alloc (Below.refl _ _) _) hcc⟩
    obtain ⟨v', w1, hrun, hB1, hg1, ho1⟩ := append_read 28 hw0 hR (by simp; omega) (by simp)
    have HR := Lib.hid hrun
    have HB : Below w.heap.size w w1 := by
      have b1 := below_alloc (Below.refl w.heap.size w) (Obj.cells #[] bT (0, 0))
      refine ⟨hg1.os.trans b1.os, hg1.tape.trans b1.tape, hg1.output.trans b1.output, Nat.le_trans b1.size hg1.size, fun k hk => (hg1.block k (Nat.lt_of_lt_of_le hk b1.size) (fun e => ?_)).trans (b1.block k hk)⟩
      simp [Value.ownBlock] at e
      omega
    obtain ⟨n, hn⟩ : ∃ k, k = bs.length := ⟨_, rfl⟩
    rw [← hn] at HR ⊢
    have q1 := fun (W : World) => Lib.run_eql_slice_nil (P := Tryd.prog) W 28 5 (some ⟨g, 0, none⟩) n cap 0 0 Tryd.underlying28
    clear hrun hR hw0 h hn
    go_enter Tryd.func31, Tryd.ntmps31
    go_wp2_with (at_builtin; refine wpList_appB rfl (.tmp 5) (.tmp 6) 28 rfl (.slice (some ⟨w.heap.size, 0, none⟩) ([] : List Int).length 0) _ rfl rfl HR.out ?_)
    go_ret
    exact ⟨_, rfl, by simpa using hB1, HB⟩
end Go.Proofs.YtnmbkaccoaeijaaDoor

/- The device's methods walked: Sync, Cut, Operations, New, Read. -/
namespace Go.Proofs.YtnmbkaccoaeijaaDoor
open Go.RowKit Go.Proofs.YtnmbkaccoaeijaaDoorW.PrintWords Go.Proofs.YtnmbkaccoaeijaaDoorW.PrintLast
def synS (S : DevS) (s : ByteArray) : Int × DevS :=
  match S.file s with
  | none => (10, S)
  | some f => if S.left = 0 then (30, S) else (0, S.step.put s ⟨f.bytes, f.bytes.length⟩)
def readNo (S : DevS) (s : ByteArray) : Int := if (S.file s).isSome then 0 else 10
def cutS (S : DevS) (n : Int) : DevS := if S.left = 0 then S else { S with left := max n (-1) }
theorem newD_kept {n d mb : Nat} {G : ByteArray → Option (Nat × Value)} {s : ByteArray} {p : Nat × Value} (hG : G s = some p) : NewD n d mb G (fun t => if t = s then some p else G t) := by
  rintro k (h | h | ⟨t, q, hq, hk⟩)
  · exact Or.inl (Or.inl h)
  · exact Or.inl (Or.inr (Or.inl h))
  · replace hq : (if t = s then some p else G t) = some q := hq
    by_cases ht : t = s
    · rw [if_pos ht] at hq
      exact Or.inl (Or.inr (Or.inr ⟨s, q, hG.trans hq, hk⟩))
    · rw [if_neg ht] at hq
      exact Or.inl (Or.inr (Or.inr ⟨t, q, hq, hk⟩))
theorem DevG.resynced {w w' : World} {base d mb fb : Nat} {G : ByteArray → Option (Nat × Value)} {S : DevS} {s : ByteArray} {v : Value} {f : FileS} {sy : Int} (hD : DevG w base d mb G S) (hG : G s = some (fb, v)) (hf : S.file s = some f)
    (h2 : w'.heap[fb]? = some (.cells #[v, .int .i64 sy] fT (0, 0))) (hk : ∀ k, k ≠ fb → w'.heap[k]? = w.heap[k]?) : DevG w' base d mb (fun t => if t = s then some (fb, v) else G t) (S.put s ⟨f.bytes, sy⟩) := by
  obtain ⟨n1, n2⟩ := hD.ne
  obtain ⟨m1, m2, m3⟩ := n2 s _ hG
  obtain ⟨f', hf', hfa⟩ := hD.file s _ hG
  obtain rfl : f' = f := Option.some.inj (hf'.symm.trans hf)
  refine hD.upd s fb v ⟨f'.bytes, sy⟩ (hk d (Ne.symm m1)) ?_ ⟨h2, hfa.2.same (fun g hg => hk g (fun e => (m3 g hg).2.2 s _ hG e.symm))⟩ (fun k _ _ h => hk k (h _ hG).1) (Or.inl ⟨v, hG⟩) (fun k hk => Or.inl ⟨_, hG, hk⟩) (hD.bf s _ hG)
  have hmap := hD.map.same (hk mb (Ne.symm m2))
  have e1 := upd_kept s fb v v hG
  rw [e1, hf]
  exact hmap
set_option maxHeartbeats 2000000 in
set_option maxRecDepth 100000 in
theorem sync1_calls (w : World) (base d mb fb : Nat) (G : ByteArray → Option (Nat × Value)) (S : DevS) (s : ByteArray) (v : Value) (f : FileS) (hD : DevG w base d mb G S) (hG : G s = some (fb, v)) (hf : S.file s = some f) (hlen : f.bytes.length ≤ 262144) :
    Calls Tryd.prog 24 #[.pointer (some ⟨fb, 0, none⟩)] w fun e w' => (∃ v, e = .returned v) ∧ ∃ G', DevG w' base d mb G' (S.put s ⟨f.bytes, f.bytes.length⟩) ∧ Only (OwnD d mb G) w w' ∧ NewD w.heap.size d mb G G' := by
  obtain ⟨f', hf', hfa⟩ := hD.file s _ hG
  obtain rfl : f' = f := Option.some.inj (hf'.symm.trans hf)
  have hrow := hfa.1
  obtain ⟨A, c, rfl, hc⟩ := hfa.2.form
  obtain ⟨n, hn⟩ : ∃ k, k = f'.bytes.length := ⟨_, rfl⟩
  rw [← hn] at hG hrow hlen ⊢
  have c0 : w.cell? ⟨fb, 0, none⟩ = some (.slice A n c) := (cell_of_row _ _ 0 _ _ _ hrow).trans rfl
  have H := Lib.hid (And.intro hrow (And.intro hD (And.intro hG (And.intro hf hn))))
  clear hrow hD hG hf hn hfa hf'
  go_enter Tryd.func24, Tryd.ntmps24
  go_wp2_with ((with_reducible refine wpList_store1 rfl 3 (.tmp 9) (.tmp 7) rfl fb 1 fT #[.slice A n c, .int .i64 f'.synced] (.int .i64 n) ?a1 ?a2 ?a3 ?a4 ?a5 ?a6 ?a7 ?_); (case a1 => rfl); (case a2 => rfl); (case a3 => rfl); (case a4 => exact H.out.1); (case a5 => exact (show 1 < 2 by decide)); (case a6 => exact infoI1); (case a7 => rfl); intro w2 G2 hk2 hb2 hz2)
  have hG := H.out.2.2.1
  refine ⟨rfl, .tuple #[], by simp [results, Tryd.results24], ⟨_, rfl⟩, _, H.out.2.1.resynced hG H.out.2.2.2.1 G2 hk2, ?_, newD_kept hG⟩
  have hB := hb2 0 w (Below.refl _ _) (Nat.zero_le _)
  exact ⟨hB.os, hB.tape, hB.output, hB.size, fun k _ hn => hk2 k (fun e => hn (Or.inr (Or.inr ⟨s, _, hG, Or.inl e⟩)))⟩
theorem Did.of {w w1 : World} {base d mb : Nat} {G : ByteArray → Option (Nat × Value)} {S' : DevS} (v : Value) {w' : World} (h1 : Only (OwnD d mb G) w w1) (h : ∃ G', DevG w' base d mb G' S' ∧ Only (OwnD d mb G) w1 w' ∧ NewD w1.heap.size d mb G G') : Did w base d mb G v S' (.returned v) w' := by
  obtain ⟨G', r1, r2, r3⟩ := h
  exact ⟨rfl, G', r1, h1.trans r2, fun k hk => (r3 k hk).imp id (fun h => Nat.le_trans h1.size h)⟩
set_option maxHeartbeats 2000000 in
set_option maxRecDepth 100000 in
theorem sync_calls (w : World) (base d mb : Nat) (G : ByteArray → Option (Nat × Value)) (S : DevS) (s : ByteArray) (hD : DevG w base d mb G S) (hF : Fine S) (hs : s.size ≤ maxLen) :
    Calls Tryd.prog 7 #[.pointer (some ⟨d, 0, none⟩), .string s] w (Did w base d mb G (errV (synS S s).1) (synS S s).2) := by
  have key : Calls Tryd.prog 23 #[.pointer (some ⟨d, 0, none⟩), .string s, .func (.func 24) #[] #[]] w (Did w base d mb G (errV (synS S s).1) (synS S s).2) := by
    cases hG : G s with
    | none =>
      refine (on_none w base d mb G S s _ #[] hD hG hs).mono ?_
      rintro e w' ⟨rfl, hb⟩
      have hf := hD.absent s hG
      unfold synS
      rw [hf]
      exact Did.still _ hD hb
    | some p =>
      obtain ⟨fb, v⟩ := p
      obtain ⟨f, hf, hfa⟩ := hD.file s _ hG
      have e1 : synS S s = if S.left = 0 then (30, S) else (0, S.step.put s ⟨f.bytes, f.bytes.length⟩) := by unfold synS; rw [hf]
      refine (on_some w base d mb G S s (fb, v) 24 Tryd.f24 Tryd.func24 rfl rfl #[] hD hF hG hs (fun w' => Did w base d mb G (errV 0) (S.step.put s ⟨f.bytes, f.bytes.length⟩) (.returned (errV 0)) w') (fun w1 h1 ho => ?_)).mono ?_
      · refine (sync1_calls w1 base d mb fb G S.step s v f h1 hG hf (hF.file s f hf).1).mono ?_
        rintro e w' ⟨he, h⟩
        exact ⟨he, Did.of _ ho h⟩
      · rintro e w' ⟨k, rfl, ⟨h0, rfl, hb⟩ | ⟨h0, rfl, hq⟩⟩
        · rw [e1, if_pos h0]
          exact Did.still _ hD hb
        · rw [e1, if_neg h0]
          exact hq
  have HK := Lib.hid key
  clear key hD hF
  go_enter Tryd.func7, Tryd.ntmps7
  go_wp2_with (go_at_call 23; (with_reducible refine HK.out.mono ?_); rintro e w4 ⟨rfl, h4⟩; have H4 := Lib.hid h4; clear h4)
  go_ret
  exact ⟨rfl, H4.out⟩
set_option maxHeartbeats 2000000 in
set_option maxRecDepth 100000 in
theorem ops_calls (w : World) (base d mb : Nat) (G : ByteArray → Option (Nat × Value)) (S : DevS) (hD : DevG w base d mb G S) :
    Calls Tryd.prog 19 #[.pointer (some ⟨d, 0, none⟩)] w fun e w' => e = .returned (.int .i64 S.ops) ∧ w' = w := by
  have c1 : w.cell? ⟨d, 1, none⟩ = some (.int .i64 S.ops) := (cell_of_row _ _ 1 _ _ _ hD.cell).trans rfl
  clear hD
  go_enter Tryd.func19, Tryd.ntmps19
  go_wp2
  go_ret
  exact ⟨by trivial, by trivial⟩
set_option maxHeartbeats 2000000 in
set_option maxRecDepth 100000 in
theorem cut_calls (w : World) (base d mb : Nat) (G : ByteArray → Option (Nat × Value)) (S : DevS) (n : Int) (hD : DevG w base d mb G S) :
    Calls Tryd.prog 17 #[.pointer (some ⟨d, 0, none⟩), .int .i64 n] w (Did w base d mb G (.tuple #[]) (cutS S n)) := by
  have c2 : w.cell? ⟨d, 2, none⟩ = some (.int .i64 S.left) := (cell_of_row _ _ 2 _ _ _ hD.cell).trans rfl
  have HD := Lib.hid hD
  clear hD
  by_cases h0 : S.left = 0
  · have e1 : cutS S n = S := if_pos h0
    have e2 : (S.left == 0) = true := beq_iff_eq.2 h0
    go_enter Tryd.func17, Tryd.ntmps17
    go_wp2
    rw [e1]
    exact ⟨rfl, .tuple #[], by simp [results, Tryd.results17], Did.still _ HD.out (Below.refl _ _)⟩
  · have e1 : cutS S n = { S with left := max n (-1) } := if_neg h0
    have e2 : (S.left == 0) = false := beq_eq_false_iff_ne.2 h0
    clear h0
    by_cases hn : n < -1
    · have hm : max n (-1) = -1 := by omega
      rw [hm] at e1
      have HE1 := Lib.hid e1
      clear e1 hm
      go_enter Tryd.func17, Tryd.ntmps17
      go_wp2_with ((with_reducible refine wpList_store1 rfl 3 (.tmp 13) (.tmp 11) rfl d 2 dT (devC mb S.ops S.left) (.int .i64 (-1)) ?a1 ?a2 ?a3 ?a4 ?a5 ?a6 ?a7 ?_); (case a1 => rfl); (case a2 => rfl); (case a3 => rfl); (case a4 => exact HD.out.cell); (case a5 => exact (show 2 < 3 by decide)); (case a6 => exact infoI1); (case a7 => rfl); intro w2 G2 hk2 hb2 hz2)
      rw [HE1.out]
      refine ⟨rfl, .tuple #[], by simp [results, Tryd.results17], rfl, G, HD.out.count G2 (fun k _ hk => hk2 k hk), ?_, fun k hk => Or.inl hk⟩
      have hB := hb2 0 w (Below.refl _ _) (Nat.zero_le _)
      exact ⟨hB.os, hB.tape, hB.output, hB.size, fun k _ hn => hk2 k (fun e => hn (Or.inl e))⟩
    · have hm : max n (-1) = n := by omega
      rw [hm] at e1
      have HE1 := Lib.hid e1
      clear e1 hm
      go_enter Tryd.func17, Tryd.ntmps17
      go_wp2_with ((with_reducible refine wpList_store1 rfl 3 (.tmp 13) (.tmp 11) rfl d 2 dT (devC mb S.ops S.left) (.int .i64 (n)) ?a1 ?a2 ?a3 ?a4 ?a5 ?a6 ?a7 ?_); (case a1 => rfl); (case a2 => rfl); (case a3 => rfl); (case a4 => exact HD.out.cell); (case a5 => exact (show 2 < 3 by decide)); (case a6 => exact infoI1); (case a7 => rfl); intro w2 G2 hk2 hb2 hz2)
      rw [HE1.out]
      refine ⟨rfl, .tuple #[], by simp [results, Tryd.results17], rfl, G, HD.out.count G2 (fun k _ hk => hk2 k hk), ?_, fun k hk => Or.inl hk⟩
      have hB := hb2 0 w (Below.refl _ _) (Nat.zero_le _)
      exact ⟨hB.os, hB.tape, hB.output, hB.size, fun k _ hn => hk2 k (fun e => hn (Or.inl e))⟩
theorem Fine.syn {S : DevS} (h : Fine S) (s : ByteArray) (ho : S.ops < 4611686018427387904) : Fine (synS S s).2 := by
  unfold synS
  split
  · exact h
  · rename_i f hf
    split
    · exact h
    · refine ⟨?_, fun t f' hf' => ?_, ?_, ?_⟩
      · show (if (S.file s).isSome then S.count else S.count + 1) ≤ 64
        rw [hf]
        exact h.count
      · replace hf' : (if t = s then some (⟨f.bytes, f.bytes.length⟩ : FileS) else S.file t) = some f' := hf'
        by_cases ht : t = s
        · rw [if_pos ht] at hf'
          obtain rfl := Option.some.inj hf'
          have := h.file s f hf
          exact ⟨this.1, by simp, by simp⟩
        · rw [if_neg ht] at hf'
          exact h.file t f' hf'
      · have := h.ops
        show 0 ≤ S.ops + 1 ∧ S.ops + 1 ≤ _
        omega
      · have := h.left
        show -1 ≤ lessL S.left ∧ lessL S.left ≤ _
        unfold lessL
        split <;> omega
theorem Fine.cut {S : DevS} (h : Fine S) (n : Int) (hn : n ≤ 4611686018427387904) : Fine (cutS S n) := by
  unfold cutS
  split
  · exact h
  · refine ⟨h.count, h.file, h.ops, ?_⟩
    show -1 ≤ max n (-1) ∧ max n (-1) ≤ _
    omega
theorem Fine.new : Fine DevS.new := ⟨by simp [DevS.new], fun s f h => by simp [DevS.new] at h, by simp [DevS.new], by simp [DevS.new]⟩
set_option maxHeartbeats 2000000 in
set_option maxRecDepth 100000 in
theorem read_calls (w : World) (base d mb : Nat) (G : ByteArray → Option (Nat × Value)) (S : DevS) (s : ByteArray) (hD : DevG w base d mb G S) (hF : Fine S) (hs : s.size ≤ maxLen) :
    Calls Tryd.prog 15 #[.pointer (some ⟨d, 0, none⟩), .string s] w fun e w' => ∃ v, e = .returned (.tuple #[v, errV (readNo S s)]) ∧ BytesAt bT w' w.heap.size v (S.got s).bytes ∧ Below w.heap.size w w' := by
  have C0 : w.cell? ⟨d, 0, none⟩ = some (.map (some mb)) := (cell_of_row _ _ 0 _ _ _ hD.cell).trans rfl
  cases hG : G s with
  | none =>
    have hf := hD.absent s hG
    have HD := Lib.hid (And.intro hD (And.intro hG hf))
    clear hD hG hF hf
    go_enter Tryd.func15, Tryd.ntmps15
    go_wp2_with (refine wpList_pure rfl (.tuple #[.pointer none, .bool false]) (looks_ (.tmp 12) (.tmp 13) 40 rfl 46 Tryd.underlying9 Tryd.underlying40 (.pointer none) (zero_fp _) mb _ _ rfl HD.out.1.map s rfl hs (.pointer none) false (by simp only [HD.out.2.1]; rfl) (by simp only [HD.out.2.1]; rfl)) ?_)
    refine ⟨rfl, .tuple #[.slice none 0 0, errE 10], by simp [results, Tryd.results15]; rfl, ?_⟩
    refine ⟨.slice none 0 0, by unfold readNo; rw [HD.out.2.2]; rfl, ?_, Below.refl _ _⟩
    unfold DevS.got
    rw [HD.out.2.2]
    exact BytesAt.nil _ _ _
  | some p =>
    obtain ⟨fb, v⟩ := p
    obtain ⟨f, hf, hfa⟩ := hD.file s _ hG
    have c0 : w.cell? ⟨fb, 0, none⟩ = some v := (cell_of_row _ _ 0 _ _ _ hfa.1).trans rfl
    have HC := Lib.hid (cloneB_calls hfa.2 (Nat.le_trans (hF.file s f hf).1 (by decide)))
    have HD := Lib.hid (And.intro hD (And.intro hG hf))
    obtain ⟨A, c, rfl, _⟩ := hfa.2.form
    obtain ⟨n, hn⟩ : ∃ k, k = f.bytes.length := ⟨_, rfl⟩
    simp only [← hn] at HC c0 HD
    clear hD hG hF hf hfa hn
    go_enter Tryd.func15, Tryd.ntmps15
    go_wp2_with (first
      | (go_at_call 31; (with_reducible refine HC.out.mono ?_); rintro e w4 ⟨v4, rfl, h4⟩; have H4 := Lib.hid h4; clear h4)
      | (refine wpList_pure rfl (.tuple #[.pointer (some ⟨fb, 0, none⟩), .bool true]) (looks_ (.tmp 12) (.tmp 13) 40 rfl 46 Tryd.underlying9 Tryd.underlying40 (.pointer none) (zero_fp _) mb _ _ rfl HD.out.1.map s rfl hs (.pointer (some ⟨fb, 0, none⟩)) true (by simp only [HD.out.2.1]; rfl) (by simp only [HD.out.2.1]; rfl)) ?_))
    refine ⟨rfl, .tuple #[v4, .nilIface], by simp [results, Tryd.results15], ?_⟩
    refine ⟨v4, by unfold readNo; rw [HD.out.2.2]; rfl, ?_, H4.out.2⟩
    unfold DevS.got
    rw [HD.out.2.2]
    exact H4.out.1
set_option maxHeartbeats 2000000 in
set_option maxRecDepth 100000 in
theorem new_calls (w : World) : Calls Tryd.prog 4 #[] w fun e w' => e = .returned (.pointer (some ⟨w.heap.size + 1, 0, none⟩)) ∧ DevG w' w.heap.size (w.heap.size + 1) w.heap.size (fun _ => none) DevS.new ∧ Below w.heap.size w w' := by
  have q1 := run_makeMap (P := Tryd.prog) 40 w
  go_enter Tryd.func4, Tryd.ntmps4
  go_wp2
  go_ret
  have b1 := below_alloc (below_alloc (Below.refl w.heap.size w) (Obj.map #[] 0)) (Obj.cells #[.map (some w.heap.size), .int .i64 0, .int .i64 (-1)] dT (0, 0))
  refine ⟨rfl, ⟨?_, ?_, fun s p h => by simp at h, fun s _ => rfl, fun s t p q h => by simp at h, Nat.le_succ _, Nat.le_refl _, fun s p h => by simp at h⟩, b1⟩
  · have := heap_alloc_new (w.alloc (Obj.map #[] 0)) (Obj.cells #[.map (some w.heap.size), .int .i64 0, .int .i64 (-1)] dT (0, 0))
    have hz : (w.alloc (Obj.map #[] 0)).heap.size = w.heap.size + 1 := by simp
    rw [hz] at this
    exact this
  · have := (MapS.made (P := Tryd.prog) (sT := sT) w).same (w' := ((w.alloc (Obj.map #[] 0)).alloc (Obj.cells #[.map (some w.heap.size), .int .i64 0, .int .i64 (-1)] dT (0, 0)))) (heap_alloc_old _ _ (by simp))
    exact this
end Go.Proofs.YtnmbkaccoaeijaaDoor

/- Maps keyed by texts: ranged over. -/
namespace Go.Proofs.YtnmbkaccoaeijaaDoor
open Go.Maps (Keyed string_keyed)
theorem ky_inv {P : Program} {k : TypeId} (hk : P.underlying k = some .string) {key : Value} {kl : Lit} (h : keyOf P k key = some kl) : ∃ s : ByteArray, key = .string s ∧ kl = kyL s ∧ s.size ≤ maxLen := by
  cases key <;> simp [keyOf, hk, mapKey] at h
  obtain ⟨h1, rfl⟩ := h
  exact ⟨_, rfl, rfl, h1⟩
theorem kyL_inj {s t : ByteArray} (h : kyL s = kyL t) : s = t := Classical.byContradiction fun e => kyL_ne e h
def RangeS (P : Program) (sT : TypeId) (w : World) (b r : Nat) (M : ByteArray → Option Value) (c : Nat) (L : ByteArray → Bool) (cnt : Nat) : Prop :=
  ∃ D n left, w.ranges P sT hR b r n D left cnt ∧ n < maxLen ∧ n ≤ c + 0 ∧ Maps.size D = c ∧ (∀ s : ByteArray, Maps.has D (kyL s) = (M s).isSome ∧ ∀ v, M s = some v → ∀ z, D.atKey (kyL s) z = .held v) ∧ ∀ s, L s = left (kyL s)
section
variable {P : Program} {sT : TypeId} {w : World} {b r c cnt : Nat} {M : ByteArray → Option Value} {L : ByteArray → Bool}
theorem RangeS.map (h : RangeS P sT w b r M c L cnt) : MapS P sT w b M c := by
  obtain ⟨D, n, left, h, h1, h2, h3, h4, _⟩ := h
  exact ⟨D, n, h.owns, h1, h2, h3, h4⟩
theorem RangeS.left_eq (h : RangeS P sT w b r M c L cnt) : w.rangeLeft b r = cnt := by
  obtain ⟨D, n, left, h, _⟩ := h
  exact h.left_eq
theorem RangeS.ne (h : RangeS P sT w b r M c L cnt) : r ≠ b := by
  obtain ⟨D, n, left, h, _⟩ := h
  exact h.ne
theorem RangeS.lt (h : RangeS P sT w b r M c L cnt) : r < w.heap.size := by
  obtain ⟨D, n, left, h, _⟩ := h
  exact h.lt
theorem RangeS.same {w' : World} (h : RangeS P sT w b r M c L cnt) (hb : w'.heap[b]? = w.heap[b]?) (hr : w'.heap[r]? = w.heap[r]?) : RangeS P sT w' b r M c L cnt := by
  obtain ⟨D, n, left, ⟨es, clock, since, seen, c0, h1, h2, h3, h4, h5, h6⟩, q⟩ := h
  exact ⟨D, n, left, ⟨es, clock, since, seen, c0, hb.trans h1, h2, h3, h4, hr.trans h5, h6⟩, q⟩
variable {ops : Array Oper} {rest : List Oper} {o : Oper} {a : Act} {Q : Exit → Act → World → Prop}
theorem wpList_rangeS (hg : o.guard = none) (m : Operand) (t : TypeId) (hop : o.op = Op.range t m) (e : TypeId) (hs : P.underlying sT = some .string) (ht : P.underlying t = some (.map sT e))
    (b : Nat) (M : ByteArray → Option Value) (c : Nat) (hm : a.eval m = .map (some b)) (h : MapS P sT w b M c)
    (hK : ∀ w', RangeS P sT w' b w.heap.size M c (fun s => (M s).isSome) c → w.grownBy w' none → w'.heap.size = w.heap.size + 1 → wpList P ops Q rest (a.put o.dst (.pointer (some ⟨w.heap.size, 0, none⟩))) w') :
    wpList P ops Q (o :: rest) a w := by
  obtain ⟨D, n, h, h1, h2, h3, h4⟩ := h
  refine wpList_range_own w hg m t hop sT e (string_keyed hs) ht hR b n D hm h (fun w' r1 r2 r3 => hK w' ?_ r2 r3)
  rw [h3] at r1
  exact ⟨D, n, _, r1, h1, h2, h3, h4, fun s => (h4 s).1.symm⟩
theorem wpList_nextS (hg : o.guard = none) (it : Operand) (hop : o.op = Op.next it false) (hs : P.underlying sT = some .string) (b r : Nat) (M : ByteArray → Option Value) (c : Nat) (L : ByteArray → Bool) (cnt : Nat)
    (hit : a.eval it = .pointer (some ⟨r, 0, none⟩)) (h : RangeS P sT w b r M c L cnt)
    (hDone : cnt = 0 → (∀ s, L s = false) → wpList P ops Q rest (a.put o.dst (.tuple #[.bool false])) w)
    (hMore : ∀ (s : ByteArray) (v : Value) (w' : World) (cnt' : Nat), s.size ≤ maxLen → L s = true → M s = some v → RangeS P sT w' b r M c (fun t => if t = s then false else L t) cnt' → cnt' < cnt →
      w.grownBy w' (some r) → w'.heap.size = w.heap.size → (Instr.entry (.pointer (some ⟨r, 0, none⟩))).run P w' = .ok (.tuple #[.string s, v]) w' → wpList P ops Q rest (a.put o.dst (.tuple #[.bool true, .string s, v])) w') :
    wpList P ops Q (o :: rest) a w := by
  obtain ⟨D, n, left, h, h1, h2, h3, h4, h5⟩ := h
  have hsub : ∀ kl, left kl = true → Maps.has D kl = true := by
    have hK := string_keyed hs
    obtain ⟨es, clock, since, seen, c0, _, F, _, hD, _, _, _, _, hl2, _⟩ := h
    intro kl hkl
    obtain ⟨x, hx, hxk⟩ := hl2 kl hkl
    subst hD
    obtain ⟨y, hy⟩ := F.reads x hx
    refine List.any_eq_true.2 ⟨Go.WideElems.rg P sT hR x, mem_sorted.2 (List.mem_map.2 ⟨x, hx, rfl⟩), ?_⟩
    rw [← hxk]
    exact WideAt.sameKey_self (by rw [Go.WideElems.rg_of hy]; exact hK.key (Go.WideElems.rd_key hy))
  refine wpList_next_ranges w hg it hop sT (string_keyed hs) hR Value.string id (fun key kl hk => by obtain ⟨s, hs', _⟩ := ky_inv hs hk; exact ⟨s, hs'⟩) (fun v y _ => ⟨v, rfl⟩) b r n D left cnt hit h
    (fun h0 hl => hDone h0 (fun s => (h5 s).trans (hl _))) (fun x v kl y w' cnt' hk hl hv hat hrg hlt hgr hsz hen => ?_)
  obtain ⟨s, hs', rfl, hsl⟩ := ky_inv hs hk
  obtain rfl : x = s := by injection hs'
  have hM : M x = some v := by
    have hh := (h4 x).1
    rw [hsub _ hl] at hh
    obtain ⟨u, hu⟩ := Option.isSome_iff_exists.1 hh.symm
    have e1 := (h4 x).2 u hu (.held u)
    rw [hat] at e1
    have e2 : DataW.held v = y.1 := congrArg Prod.fst (Option.some.inj hv)
    rw [← e2] at e1
    injection e1 with e1
    rw [hu, e1]
  refine hMore x v w' cnt' hsl ((h5 x).trans hl) hM ⟨D, n, _, hrg, h1, h2, h3, h4, fun t => ?_⟩ hlt hgr hsz hen
  by_cases ht : t = x
  · subst ht
    simp [WideAt.sameKey_self (kyL_key t)]
  · have hne : (kyL t).sameKey (kyL x) = false := by
      cases hh : (kyL t).sameKey (kyL x)
      · rfl
      · exact absurd (kyL_inj (WideAt.sameKey_eq hh)) ht
    simp [ht, hne, h5]
end
end Go.Proofs.YtnmbkaccoaeijaaDoor

/- The device's methods walked: Restart. -/
namespace Go.Proofs.YtnmbkaccoaeijaaDoor
open Go.RowKit Go.Proofs.YtnmbkaccoaeijaaDoorW.PrintWords Go.Proofs.YtnmbkaccoaeijaaDoorW.PrintLast
def restN (keep : Int) (f : FileS) : Int := f.synced + min (max keep 0) (f.bytes.length - f.synced)
def restF (keep : Int) (f : FileS) : FileS := ⟨f.bytes.take (restN keep f).toNat, restN keep f⟩
def restD (S : DevS) (keep : Int) (done : ByteArray → Bool) : DevS := { S with file := fun s => (S.file s).map (fun f => if done s then restF keep f else f), left := -1 }
def restS (S : DevS) (keep : Int) : DevS := { S with file := fun s => (S.file s).map (restF keep), left := -1 }
theorem restN_le {keep : Int} {f : FileS} (h0 : 0 ≤ f.synced) (h1 : f.synced ≤ f.bytes.length) : 0 ≤ restN keep f ∧ restN keep f ≤ f.bytes.length := by
  unfold restN
  omega
theorem restF_len {keep : Int} {f : FileS} (h0 : 0 ≤ f.synced) (h1 : f.synced ≤ f.bytes.length) : ((restF keep f).bytes.length : Int) = restN keep f := by
  have := restN_le (keep := keep) h0 h1
  unfold restF
  simp only [List.length_take]
  omega
theorem Fine.rest {S : DevS} (h : Fine S) (keep : Int) : Fine (restS S keep) := by
  refine ⟨h.count, fun s f hf => ?_, h.ops, by simp [restS]⟩
  obtain ⟨f0, h1, rfl⟩ := Option.map_eq_some_iff.1 hf
  obtain ⟨a, b, c⟩ := h.file s f0 h1
  have e := restF_len (keep := keep) b c
  have e2 := restN_le (keep := keep) b c
  refine ⟨by omega, e2.1, ?_⟩
  rw [e]
  exact Int.le_refl _
theorem restD_all (S : DevS) (keep : Int) (done : ByteArray → Bool) (h : ∀ s, done s = true) : restD S keep done = restS S keep := by
  unfold restD restS
  simp [h]
theorem restD_put (S : DevS) (keep : Int) (done done' : ByteArray → Bool) (s : ByteArray) (f : FileS) (hf : S.file s = some f) (h1 : done s = false) (h2 : ∀ t, done' t = if t = s then true else done t) : (restD S keep done).put s (restF keep f) = restD S keep done' := by
  have e1 : (restD S keep done).file s = some f := by simp [restD, hf, h1]
  unfold DevS.put
  rw [e1]
  simp only [Option.isSome_some, if_true]
  unfold restD
  congr 1
  funext t
  by_cases ht : t = s
  · subst ht
    simp [hf, h2]
  · simp [ht, h2]
theorem BytesAt.cut {e : TypeId} {w : World} {base n : Nat} {A : Option Addr} {m c : Nat} {bs : List Int} (h : BytesAt e w base (.slice A m c) bs) (hn : n ≤ bs.length) : BytesAt e w base (.slice A n n) (bs.take n) := by
  rcases h with ⟨h1, rfl⟩ | ⟨g, cap, cur, h1, hb, hh, hc, hc2, hm, ht⟩
  · injection h1 with h1 h2 h3
    subst h1 h2 h3
    obtain rfl : n = 0 := by simpa using hn
    exact Or.inl ⟨rfl, rfl⟩
  · injection h1 with h1 h2 h3
    subst h1
    refine Or.inr ⟨g, n, cur, ?_, hb, hh, ?_, by omega, by omega, ?_⟩
    · rw [List.length_take, Nat.min_eq_left hn]
    · rw [List.length_take]; omega
    · rw [List.length_take, Nat.min_eq_left hn, List.map_take, ← ht, List.take_take, Nat.min_eq_left hn]
theorem own_cut {A : Option Addr} {n m m' c' k : Nat} (h : (Value.slice A n m).ownBlock = some k) : (Value.slice A m' c').ownBlock = some k := by
  cases A with
  | none => simp [Value.ownBlock] at h
  | some a => simpa [Value.ownBlock] using h
theorem DevG.cutOff {w w' : World} {base d mb fb n : Nat} {G : ByteArray → Option (Nat × Value)} {S : DevS} {s : ByteArray} {A : Option Addr} {m c : Nat} {f : FileS} {sy : Int} (hD : DevG w base d mb G S) (hG : G s = some (fb, .slice A m c)) (hf : S.file s = some f) (hn : n ≤ f.bytes.length)
    (h2 : w'.heap[fb]? = some (.cells #[.slice A n n, .int .i64 sy] fT (0, 0))) (hk : ∀ k, k < w.heap.size → k ≠ fb → w'.heap[k]? = w.heap[k]?) : DevG w' base d mb (fun t => if t = s then some (fb, .slice A n n) else G t) (S.put s ⟨f.bytes.take n, sy⟩) := by
  obtain ⟨n1, n2⟩ := hD.ne
  obtain ⟨m1, m2, m3⟩ := n2 s _ hG
  obtain ⟨f', hf', hfa⟩ := hD.file s _ hG
  obtain rfl : f' = f := Option.some.inj (hf'.symm.trans hf)
  have hB := hfa.2.cut hn
  have hlt : ∀ k, OwnD d mb G k → k < w.heap.size := hD.own_lt
  refine hD.upd s fb (.slice A n n) ⟨f'.bytes.take n, sy⟩ (hk d (hlt d (Or.inl rfl)) (Ne.symm m1)) ?_ ⟨h2, hB.same (fun g hg => ?_)⟩ (fun k hk1 _ h => hk k (hlt k hk1) (h _ hG).1) (Or.inl ⟨_, hG⟩) (fun k hk => Or.inl ⟨_, hG, own_cut hk⟩) (hD.bf s _ hG)
  · have hmap := hD.map.same (hk mb hD.map.lt (Ne.symm m2))
    have e1 := upd_kept s fb (.slice A m c) (.slice A n n) hG
    rw [e1, hf]
    exact hmap
  · have hg' : (Value.slice A m c).ownBlock = some g := own_cut hg
    exact hk g (hlt g (Or.inr (Or.inr ⟨s, _, hG, Or.inr hg'⟩))) (fun e => (m3 g hg').2.2 s _ hG e.symm)
theorem newD_cut {d mb fb n : Nat} {G : ByteArray → Option (Nat × Value)} {s : ByteArray} {A : Option Addr} {m c : Nat} (hG : G s = some (fb, .slice A m c)) : ∀ k, OwnD d mb (fun t => if t = s then some (fb, .slice A n n) else G t) k → OwnD d mb G k := by
  rintro k (h | h | ⟨t, q, hq, hk⟩)
  · exact Or.inl h
  · exact Or.inr (Or.inl h)
  · replace hq : (if t = s then some (fb, Value.slice A n n) else G t) = some q := hq
    by_cases ht : t = s
    · rw [if_pos ht] at hq
      obtain rfl := Option.some.inj hq
      rcases hk with hk | hk
      · exact Or.inr (Or.inr ⟨s, _, hG, Or.inl hk⟩)
      · exact Or.inr (Or.inr ⟨s, _, hG, Or.inr (own_cut hk)⟩)
    · rw [if_neg ht] at hq
      exact Or.inr (Or.inr ⟨t, q, hq, hk⟩)
def RestAt (w wr : World) (base d mb r : Nat) (G : ByteArray → Option (Nat × Value)) (S1 : DevS) (keep : Int) : Prop :=
  ∃ L cnt G', RangeS Tryd.prog sT wr mb r (fun s => (G s).map ptrOf) S1.count L cnt ∧ DevG wr base d mb G' (restD S1 keep (fun s => !L s)) ∧ Only (OwnD d mb G) w wr ∧ w.heap.size ≤ r ∧ (fun s => (G' s).map ptrOf) = (fun s => (G s).map ptrOf) ∧ ∀ k, OwnD d mb G' k → OwnD d mb G k
theorem restart_open {w w2 : World} {base d mb : Nat} {G : ByteArray → Option (Nat × Value)} {S S1 : DevS} (hD : DevG w base d mb G S) (hS1 : S1 = { S with left := -1 }) (G2 : w2.heap[d]? = some (.cells (devC mb S.ops (-1)) dT (0, 0))) (hk2 : ∀ k, k ≠ d → w2.heap[k]? = w.heap[k]?)
    (hb : Below 0 w w2) (hz : w2.heap.size = w.heap.size) : DevG w2 base d mb G S1 ∧ Only (fun k => k = d) w w2 := by
  subst hS1
  exact ⟨hD.count G2 (fun k _ hk => hk2 k hk), Only.one hk2 hz hb⟩
theorem restart_start {w w2 w3 : World} {base d mb r : Nat} {G : ByteArray → Option (Nat × Value)} {S S1 : DevS} {keep : Int} (hD : DevG w base d mb G S) (h2 : DevG w2 base d mb G S1) (ho : Only (fun k => k = d) w w2) (hr : r = w2.heap.size) (hl : S1.left = -1)
    (hrg : RangeS Tryd.prog sT w3 mb r (fun s => (G s).map ptrOf) S1.count (fun s => ((G s).map ptrOf).isSome) S1.count) (hg : w2.grownBy w3 none) : RestAt w w3 base d mb r G S1 keep := by
  have hD3 : DevG w3 base d mb G S1 := h2.same (fun k hk => hg.block k (h2.own_lt k hk) (by simp))
  refine ⟨_, _, G, hrg, ?_, ?_, by rw [hr]; exact ho.size, rfl, fun k hk => hk⟩
  · have e : restD S1 keep (fun s => !((G s).map ptrOf).isSome) = S1 := by
      obtain ⟨f, c, o, l⟩ := S1
      have hl' : l = -1 := hl
      subst hl'
      unfold restD
      congr 1
      funext s
      cases hs : G s with
      | none => show Option.map _ (f s) = f s; rw [show f s = none from h2.absent s hs]; rfl
      | some p =>
        obtain ⟨f1, hf1, _⟩ := h2.file s p hs
        have hf2 : f s = some f1 := hf1
        show Option.map _ (f s) = f s
        rw [hf2]
        simp [hs]
    rw [e]
    exact hD3
  · exact (ho.mono (fun k _ e => Or.inl e)).trans ((Only.grown hg).mono (fun k _ e => by cases e))
theorem restart_next {w wr w4 : World} {base d mb r c0 cnt : Nat} {G G' : ByteArray → Option (Nat × Value)} {S S1 : DevS} {keep : Int} {L : ByteArray → Bool} {s : ByteArray} {v : Value} (hD : DevG wr base d mb G' (restD S1 keep (fun s => !L s))) (hrg : RangeS Tryd.prog sT wr mb r (fun s => (G s).map ptrOf) c0 L cnt) (hw : w.heap.size ≤ r) (hown : ∀ k, OwnD d mb G' k → OwnD d mb G k) (hG : DevG w base d mb G S) (hM0 : (fun s => (G' s).map ptrOf) = (fun s => (G s).map ptrOf))
    (hM : (G s).map ptrOf = some v) (hLs : L s = true) (hg : wr.grownBy w4 (some r)) :
    ∃ fb A c f, v = .pointer (some ⟨fb, 0, none⟩) ∧ G' s = some (fb, .slice A f.bytes.length c) ∧ S1.file s = some f ∧ DevG w4 base d mb G' (restD S1 keep (fun s => !L s)) ∧ w4.heap[fb]? = some (.cells #[.slice A f.bytes.length c, .int .i64 f.synced] fT (0, 0)) ∧ f.bytes.length ≤ c ∧ fb ≠ r ∧ r ≠ mb := by
  have hr : ∀ k, OwnD d mb G' k → k ≠ r := fun k hk e => by
    have := hG.own_lt k (hown k hk)
    omega
  have h1 : (G' s).map ptrOf = some v := (congrFun hM0 s).trans hM
  obtain ⟨p, hp, rfl⟩ := Option.map_eq_some_iff.1 h1
  have hD4 : DevG w4 base d mb G' (restD S1 keep (fun s => !L s)) := hD.same (fun k hk => hg.block k (hD.own_lt k hk) (fun e => hr k hk (Option.some.inj e)))
  obtain ⟨f, hf, hfa⟩ := hD4.file s p hp
  obtain ⟨A, c, hv, hc⟩ := hfa.2.form
  obtain ⟨fb, vv⟩ := p
  have hv' : vv = .slice A f.bytes.length c := hv
  subst hv'
  have hf1 : S1.file s = some f := by
    unfold restD at hf
    simpa [hLs] using hf
  exact ⟨fb, A, c, f, rfl, hp, hf1, hD4, hfa.1, hc, hr fb (Or.inr (Or.inr ⟨s, _, hp, Or.inl rfl⟩)), hrg.ne⟩
theorem restart_step {w wr w4 w5 : World} {base d mb r fb c : Nat} {A : Option Addr} {G G' : ByteArray → Option (Nat × Value)} {S1 : DevS} {keep : Int} {L : ByteArray → Bool} {cnt : Nat} {s : ByteArray} {f : FileS} (hD : DevG w4 base d mb G' (restD S1 keep (fun s => !L s))) (hp : G' s = some (fb, .slice A f.bytes.length c)) (hf : S1.file s = some f) (h0 : 0 ≤ f.synced ∧ f.synced ≤ f.bytes.length)
    (hLs : L s = true) (hrg : RangeS Tryd.prog sT w4 mb r (fun s => (G s).map ptrOf) S1.count (fun t => if t = s then false else L t) cnt) (hrb : fb ≠ r) (hM0 : (fun s => (G' s).map ptrOf) = (fun s => (G s).map ptrOf)) (hown : ∀ k, OwnD d mb G' k → OwnD d mb G k) (ho : Only (OwnD d mb G) w wr) (hw : w.heap.size ≤ r) (hg : wr.grownBy w4 (some r))
    (h5 : w5.heap[fb]? = some (.cells #[.slice A (restN keep f).toNat (restN keep f).toNat, .int .i64 (restN keep f)] fT (0, 0))) (hk : ∀ k, k ≠ fb → w5.heap[k]? = w4.heap[k]?) (hb : Below 0 w4 w5) : RestAt w w5 base d mb r G S1 keep ∧ w5.rangeLeft mb r = cnt := by
  have hn := restN_le (keep := keep) h0.1 h0.2
  have hf2 : (restD S1 keep (fun s => !L s)).file s = some f := by
    unfold restD
    simp [hf, hLs]
  obtain ⟨n1, n2⟩ := hD.ne
  obtain ⟨m1, m2, m3⟩ := n2 s _ hp
  have hrg5 := hrg.same (hk mb (Ne.symm m2)) (hk r (Ne.symm hrb))
  have hN := hD.cutOff (n := (restN keep f).toNat) (sy := restN keep f) hp hf2 (by omega) h5 (fun k _ h => hk k h)
  have e1 : (restD S1 keep (fun s => !L s)).put s ⟨f.bytes.take (restN keep f).toNat, restN keep f⟩ = restD S1 keep (fun t => !(if t = s then false else L t)) :=
    restD_put S1 keep _ _ s f hf (by simp [hLs]) (fun t => by by_cases ht : t = s <;> simp [ht])
  rw [e1] at hN
  refine ⟨⟨_, cnt, _, hrg5, hN, ?_, hw, ?_, fun k h => hown k (newD_cut hp k h)⟩, hrg5.left_eq⟩
  · have o4 : Only (OwnD d mb G) w w4 := ⟨hg.os.trans ho.os, hg.tape.trans ho.tape, hg.output.trans ho.output, Nat.le_trans ho.size hg.size, fun k hk1 hk2 => (hg.block k (Nat.lt_of_lt_of_le hk1 ho.size) (fun e => by have := Option.some.inj e; omega)).trans (ho.block k hk1 hk2)⟩
    exact o4.trans ⟨hb.os, hb.tape, hb.output, hb.size, fun k _ hn => hk k (fun e => hn (hown k (Or.inr (Or.inr ⟨s, _, hp, Or.inl e⟩))))⟩
  · rw [← hM0]
    exact upd_kept s fb _ _ hp
theorem restart_end {w wr w4 w5x w5 w6 : World} {base d mb r fb c n kk : Nat} {A : Option Addr} {G G' : ByteArray → Option (Nat × Value)} {S1 : DevS} {keep sy : Int} {L : ByteArray → Bool} {cnt cnt1 : Nat} {s : ByteArray} {f : FileS}
    (hK : (kk : Int) = restN keep f) (hN : n = f.bytes.length ∧ sy = f.synced)
    (hX : G' s = some (fb, .slice A f.bytes.length c) ∧ S1.file s = some f ∧ DevG w4 base d mb G' (restD S1 keep (fun s => !L s)) ∧ w4.heap[fb]? = some (.cells #[.slice A f.bytes.length c, .int .i64 f.synced] fT (0, 0)) ∧ f.bytes.length ≤ c ∧ fb ≠ r ∧ RangeS Tryd.prog sT w4 mb r (fun s => (G s).map ptrOf) S1.count (fun t => if t = s then false else L t) cnt1 ∧ wr.grownBy w4 (some r) ∧ (f.bytes.length ≤ 262144 ∧ 0 ≤ f.synced ∧ f.synced ≤ f.bytes.length) ∧ L s = true ∧ cnt1 < cnt)
    (hI : RangeS Tryd.prog sT wr mb r (fun s => (G s).map ptrOf) S1.count L cnt ∧ DevG wr base d mb G' (restD S1 keep (fun s => !L s)) ∧ Only (OwnD d mb G) w wr ∧ w.heap.size ≤ r ∧ (fun s => (G' s).map ptrOf) = (fun s => (G s).map ptrOf) ∧ ∀ k, OwnD d mb G' k → OwnD d mb G k)
    (h4 : w5x.heap = w4.heap ∧ Below 0 w4 w5x) (h5 : w5.heap[fb]? = some (.cells (#[.slice A n c, .int .i64 sy].setIfInBounds 0 (.slice A kk kk)) fT (0, 0)) ∧ (∀ k, k ≠ fb → w5.heap[k]? = w5x.heap[k]?) ∧ Below 0 w5x w5)
    (h6 : w6.heap[fb]? = some (.cells (#[.slice A kk kk, .int .i64 sy].setIfInBounds 1 (.int .i64 kk)) fT (0, 0)) ∧ (∀ k, k ≠ fb → w6.heap[k]? = w5.heap[k]?) ∧ Below 0 w5 w6) : RestAt w w6 base d mb r G S1 keep ∧ w6.rangeLeft mb r = cnt1 := by
  have e : (restN keep f).toNat = kk := by omega
  refine restart_step hX.2.2.1 hX.1 hX.2.1 hX.2.2.2.2.2.2.2.2.1.2 hX.2.2.2.2.2.2.2.2.2.1 hX.2.2.2.2.2.2.1 hX.2.2.2.2.2.1 hI.2.2.2.2.1 hI.2.2.2.2.2 hI.2.2.1 hI.2.2.2.1 hX.2.2.2.2.2.2.2.1 ?_ (fun k hk => ?_) ((h4.2.trans h5.2.2).trans h6.2.2)
  · rw [e, ← hK]
    exact h6.1
  · rw [h6.2.1 k hk, h5.2.1 k hk, h4.1]
set_option maxHeartbeats 4000000 in
set_option maxRecDepth 100000 in
theorem restart_calls (w : World) (base d mb : Nat) (G : ByteArray → Option (Nat × Value)) (S : DevS) (keep : Int) (hD : DevG w base d mb G S) (hF : Fine S) (hk : -4611686018427387904 ≤ keep ∧ keep ≤ 4611686018427387904) :
    Calls Tryd.prog 8 #[.pointer (some ⟨d, 0, none⟩), .int .i64 keep] w (Did w base d mb G (.tuple #[]) (restS S keep)) := by
  obtain ⟨S1, hS1⟩ : ∃ x, x = ({ S with left := -1 } : DevS) := ⟨_, rfl⟩
  have hRS : restS S1 keep = restS S keep := by rw [hS1]; rfl
  have hSf : S1.file = S.file := by rw [hS1]
  have hSl : S1.left = -1 := by rw [hS1]
  have HD := Lib.hid (And.intro hD (And.intro hF (And.intro hRS (And.intro hSf (And.intro hSl hS1)))))
  clear hD hF hRS hSf hSl hS1
  go_enter Tryd.func8, Tryd.ntmps8
  go_wp2_with (first
    | ((with_reducible refine wpList_store1 rfl 3 (.tmp 9) (.const (.int .i64 (-1))) rfl d 2 dT (devC mb S.ops S.left) (.int .i64 (-1)) ?a1 ?a2 ?a3 ?a4 ?a5 ?a6 ?a7 ?_); (case a1 => rfl); (case a2 => rfl); (case a3 => rfl); (case a4 => exact HD.out.1.cell); (case a5 => exact (show 2 < 3 by decide)); (case a6 => exact infoI1); (case a7 => rfl); intro w2 G2 hk2 hb2 hz2; have c0 : w2.cell? ⟨d, 0, none⟩ = some (.map (some mb)) := (cell_of_row _ _ 0 _ _ _ G2).trans rfl; have H2 := Lib.hid (restart_open HD.out.1 HD.out.2.2.2.2.2 G2 hk2 (hb2 0 w (Below.refl _ _) (Nat.zero_le _)) hz2); clear G2 hk2 hb2 hz2)
    | (at_range; refine wpList_rangeS (sT := 9) rfl (.tmp 13) 40 rfl 46 Tryd.underlying9 Tryd.underlying40 mb _ _ rfl H2.out.1.map ?_; intro w3 hrg0 hg0 hs0; have H3 := Lib.hid (And.intro hrg0 (And.intro hg0 hs0)); clear hrg0 hg0 hs0))
  go_frame
  obtain ⟨r, hr⟩ : ∃ x, x = w2.heap.size := ⟨_, rfl⟩
  rw [← hr] at H3 ⊢
  have HR := Lib.hid hr
  clear hr
  go_loopw [5] (fun _ wr => Hid (RestAt w wr base d mb r G S1 keep)) (fun _ wr => wr.rangeLeft mb r)
  case atStart => exact Lib.hid (restart_start HD.out.1 H2.out.1 H2.out.2 HR.out HD.out.2.2.2.2.1 H3.out.1 H3.out.2.1)
  case round =>
    obtain ⟨L, cnt, G', hrg, hD', ho, hw, hM0, hown⟩ := hrel.out
    have HI := Lib.hid (And.intro hrg (And.intro hD' (And.intro ho (And.intro hw (And.intro hM0 hown)))))
    clear hrel hrg hD' ho hw hM0 hown
    go_wp2_with (first
      | (at_next; refine wpList_nextS (sT := 9) rfl (.tmp 14) rfl Tryd.underlying9 mb r _ _ _ _ rfl HI.out.1 ?_ ?_; (intro hc0 hl0; have HL := Lib.hid hl0; clear hl0); rotate_left; (intro s v w4 cnt1 hsl hLs hM hrg1 hlt hg1 hs1 hen; have H4 := Lib.hid (And.intro hLs (And.intro hM (And.intro hrg1 (And.intro hlt (And.intro hg1 hs1))))); clear hsl hLs hM hrg1 hlt hg1 hs1); rotate_left)
      | go_in)
    · refine ⟨rfl, .tuple #[], by simp [results, Tryd.results8], rfl, G', ?_, HI.out.2.2.1, fun k hk => Or.inl (HI.out.2.2.2.2.2 k hk)⟩
      rw [← HD.out.2.2.1, ← restD_all S1 keep (fun s => !L s) (fun s => by simp [HL.out])]
      exact HI.out.2.1
    · skip
      obtain ⟨hLs, hM, hrg1, hlt, hg1, hs1⟩ := H4.out
      clear H4
      obtain ⟨fb, A, c, f, rfl, hp, hf, hD4, hfb, hc, hrb, hrm⟩ := restart_next HI.out.2.1 HI.out.1 HI.out.2.2.2.1 HI.out.2.2.2.2.2 HD.out.1 HI.out.2.2.2.2.1 hM hLs hg1
      have hfine := HD.out.2.1.file s f (by rw [← HD.out.2.2.2.1]; exact hf)
      have HX := Lib.hid (And.intro hp (And.intro hf (And.intro hD4 (And.intro hfb (And.intro hc (And.intro hrb (And.intro hrg1 (And.intro hg1 (And.intro hfine (And.intro hLs hlt))))))))))
      obtain ⟨n, hn⟩ : ∃ x, x = f.bytes.length := ⟨_, rfl⟩
      obtain ⟨sy, hsy⟩ : ∃ x, x = f.synced := ⟨_, rfl⟩
      have c1 : w4.cell? ⟨fb, 1, none⟩ = some (.int .i64 sy) := by rw [hsy]; exact (cell_of_row _ _ 1 _ _ _ hfb).trans rfl
      have c0 : w4.cell? ⟨fb, 0, none⟩ = some (.slice A n c) := by rw [hn]; exact (cell_of_row _ _ 0 _ _ _ hfb).trans rfl
      have s0 : 0 ≤ sy := by omega
      have s1 : sy ≤ (n : Int) := by omega
      have s2 : n ≤ 262144 := by omega
      have s3 : n ≤ c := by omega
      have HN := Lib.hid (And.intro hn hsy)
      clear hp hf hD4 hfb hc hrb hrg1 hg1 hfine hLs hM hn hsy hlt hrm hs1
      have w1 : wrap64 ((n : Int) - sy) = n - sy := by unfold wrap64; omega
      obtain ⟨kk, hkk⟩ : ∃ kk : Nat, (kk : Int) = restN keep f := ⟨(restN keep f).toNat, by have := restN_le (keep := keep) (f := f) (by have := HN.out; omega) (by have := HN.out; omega); omega⟩
      have e2 : kk ≤ n := by have := HN.out; have := restN_le (keep := keep) (f := f) (by omega) (by omega); omega
      have HK := Lib.hid hkk
      by_cases hk0 : keep < 0
      · have e1 : sy = (kk : Int) := by rw [hkk]; have := HN.out; unfold restN; omega
        have E1 := Lib.hid e1
        clear hkk e1
        go_quiet (fail)
        have HF : Hid ((w4.drewN nq).heap[fb]? = some (.cells #[.slice A n c, .int .i64 sy] fT (0, 0))) := Lib.hid (by rw [HN.out.1, HN.out.2]; exact HX.out.2.2.2.1)
        have HF4 : Hid ((w4.drewN nq).heap = w4.heap ∧ Below 0 w4 (w4.drewN nq)) := Lib.hid ⟨rfl, rfl, rfl, rfl, Nat.le_refl _, fun _ _ => rfl⟩
        have C0 : (w4.drewN nq).cell? ⟨fb, 0, none⟩ = some (.slice A n c) := (cell_of_row _ _ 0 _ _ _ HF.out).trans rfl
        generalize w4.drewN nq = w5x at HF HF4 C0 ⊢
        rw [E1.out]
        clear c1 c0
        go_wp2_with (first
          | ((with_reducible refine wpList_store1 rfl 28 (.tmp 48) (.tmp 45) rfl fb 0 fT #[.slice A n c, .int .i64 sy] (.slice A kk kk) ?a1 ?a2 ?a3 ?a4 ?a5 ?a6 ?a7 ?_); (case a1 => rfl); (case a2 => first | rfl | (go_simp; done)); (case a3 => rfl); (case a4 => exact HF.out); (case a5 => exact (show 0 < 2 by decide)); (case a6 => kernel_rfl); (case a7 => rfl); intro w5 G5 hk5 hb5 hz5; have H5 := Lib.hid (And.intro G5 (And.intro hk5 (hb5 0 _ (Below.refl _ _) (Nat.zero_le _)))); clear G5 hk5 hb5 hz5)
          | ((with_reducible refine wpList_store1 rfl 3 (.tmp 50) (.tmp 46) rfl fb 1 fT #[.slice A kk kk, .int .i64 sy] (.int .i64 kk) ?b1 ?b2 ?b3 ?b4 ?b5 ?b6 ?b7 ?_); (case b1 => rfl); (case b2 => first | rfl | (go_simp; done)); (case b3 => rfl); (case b4 => exact H5.out.1); (case b5 => exact (show 1 < 2 by decide)); (case b6 => exact infoI1); (case b7 => rfl); intro w6 G6 hk6 hb6 hz6; have H6 := Lib.hid (And.intro G6 (And.intro hk6 (hb6 0 _ (Below.refl _ _) (Nat.zero_le _)))); clear G6 hk6 hb6 hz6))
        have HS := restart_end HK.out HN.out HX.out HI.out HF4.out H5.out H6.out
        go_roundw
        case rel => first | exact Lib.hid HS.1 | ((repeat apply Exists.intro); exact ⟨Lib.hid HS.1, rfl⟩)
        case measure => rw [HS.2, HI.out.1.left_eq]; exact HX.out.2.2.2.2.2.2.2.2.2.2
      · by_cases hk1 : (n : Int) - sy < keep
        · have e1 : sy + ((n : Int) - sy) = (kk : Int) := by rw [hkk]; have := HN.out; unfold restN; omega
          have E1 := Lib.hid e1
          clear hkk e1
          go_quiet (fail)
          have HF : Hid ((w4.drewN nq).heap[fb]? = some (.cells #[.slice A n c, .int .i64 sy] fT (0, 0))) := Lib.hid (by rw [HN.out.1, HN.out.2]; exact HX.out.2.2.2.1)
          have HF4 : Hid ((w4.drewN nq).heap = w4.heap ∧ Below 0 w4 (w4.drewN nq)) := Lib.hid ⟨rfl, rfl, rfl, rfl, Nat.le_refl _, fun _ _ => rfl⟩
          have C0 : (w4.drewN nq).cell? ⟨fb, 0, none⟩ = some (.slice A n c) := (cell_of_row _ _ 0 _ _ _ HF.out).trans rfl
          generalize w4.drewN nq = w5x at HF HF4 C0 ⊢
          rw [E1.out]
          clear c1 c0
          go_wp2_with (first
            | ((with_reducible refine wpList_store1 rfl 28 (.tmp 48) (.tmp 45) rfl fb 0 fT #[.slice A n c, .int .i64 sy] (.slice A kk kk) ?a1 ?a2 ?a3 ?a4 ?a5 ?a6 ?a7 ?_); (case a1 => rfl); (case a2 => first | rfl | (go_simp; done)); (case a3 => rfl); (case a4 => exact HF.out); (case a5 => exact (show 0 < 2 by decide)); (case a6 => kernel_rfl); (case a7 => rfl); intro w5 G5 hk5 hb5 hz5; have H5 := Lib.hid (And.intro G5 (And.intro hk5 (hb5 0 _ (Below.refl _ _) (Nat.zero_le _)))); clear G5 hk5 hb5 hz5)
            | ((with_reducible refine wpList_store1 rfl 3 (.tmp 50) (.tmp 46) rfl fb 1 fT #[.slice A kk kk, .int .i64 sy] (.int .i64 kk) ?b1 ?b2 ?b3 ?b4 ?b5 ?b6 ?b7 ?_); (case b1 => rfl); (case b2 => first | rfl | (go_simp; done)); (case b3 => rfl); (case b4 => exact H5.out.1); (case b5 => exact (show 1 < 2 by decide)); (case b6 => exact infoI1); (case b7 => rfl); intro w6 G6 hk6 hb6 hz6; have H6 := Lib.hid (And.intro G6 (And.intro hk6 (hb6 0 _ (Below.refl _ _) (Nat.zero_le _)))); clear G6 hk6 hb6 hz6))
          have HS := restart_end HK.out HN.out HX.out HI.out HF4.out H5.out H6.out
          go_roundw
          case rel => first | exact Lib.hid HS.1 | ((repeat apply Exists.intro); exact ⟨Lib.hid HS.1, rfl⟩)
          case measure => rw [HS.2, HI.out.1.left_eq]; exact HX.out.2.2.2.2.2.2.2.2.2.2
        · have e1 : sy + keep = (kk : Int) := by rw [hkk]; have := HN.out; unfold restN; omega
          have E1 := Lib.hid e1
          clear hkk e1
          go_quiet (fail)
          have HF : Hid ((w4.drewN nq).heap[fb]? = some (.cells #[.slice A n c, .int .i64 sy] fT (0, 0))) := Lib.hid (by rw [HN.out.1, HN.out.2]; exact HX.out.2.2.2.1)
          have HF4 : Hid ((w4.drewN nq).heap = w4.heap ∧ Below 0 w4 (w4.drewN nq)) := Lib.hid ⟨rfl, rfl, rfl, rfl, Nat.le_refl _, fun _ _ => rfl⟩
          have C0 : (w4.drewN nq).cell? ⟨fb, 0, none⟩ = some (.slice A n c) := (cell_of_row _ _ 0 _ _ _ HF.out).trans rfl
          generalize w4.drewN nq = w5x at HF HF4 C0 ⊢
          rw [E1.out]
          clear c1 c0
          go_wp2_with (first
            | ((with_reducible refine wpList_store1 rfl 28 (.tmp 48) (.tmp 45) rfl fb 0 fT #[.slice A n c, .int .i64 sy] (.slice A kk kk) ?a1 ?a2 ?a3 ?a4 ?a5 ?a6 ?a7 ?_); (case a1 => rfl); (case a2 => first | rfl | (go_simp; done)); (case a3 => rfl); (case a4 => exact HF.out); (case a5 => exact (show 0 < 2 by decide)); (case a6 => kernel_rfl); (case a7 => rfl); intro w5 G5 hk5 hb5 hz5; have H5 := Lib.hid (And.intro G5 (And.intro hk5 (hb5 0 _ (Below.refl _ _) (Nat.zero_le _)))); clear G5 hk5 hb5 hz5)
            | ((with_reducible refine wpList_store1 rfl 3 (.tmp 50) (.tmp 46) rfl fb 1 fT #[.slice A kk kk, .int .i64 sy] (.int .i64 kk) ?b1 ?b2 ?b3 ?b4 ?b5 ?b6 ?b7 ?_); (case b1 => rfl); (case b2 => first | rfl | (go_simp; done)); (case b3 => rfl); (case b4 => exact H5.out.1); (case b5 => exact (show 1 < 2 by decide)); (case b6 => exact infoI1); (case b7 => rfl); intro w6 G6 hk6 hb6 hz6; have H6 := Lib.hid (And.intro G6 (And.intro hk6 (hb6 0 _ (Below.refl _ _) (Nat.zero_le _)))); clear G6 hk6 hb6 hz6))
          have HS := restart_end HK.out HN.out HX.out HI.out HF4.out H5.out H6.out
          go_roundw
          case rel => first | exact Lib.hid HS.1 | ((repeat apply Exists.intro); exact ⟨Lib.hid HS.1, rfl⟩)
          case measure => rw [HS.2, HI.out.1.left_eq]; exact HX.out.2.2.2.2.2.2.2.2.2.2
end Go.Proofs.YtnmbkaccoaeijaaDoor

/- The device's methods walked: Truncate. -/
namespace Go.Proofs.YtnmbkaccoaeijaaDoor
open Go.RowKit Go.Proofs.YtnmbkaccoaeijaaDoorW.PrintWords Go.Proofs.YtnmbkaccoaeijaaDoorW.PrintLast
def trnS (S : DevS) (s : ByteArray) (n : Int) : Int × DevS :=
  match S.file s with
  | none => (10, S)
  | some f => if n < 0 ∨ (f.bytes.length : Int) < n then (1, S) else if S.left = 0 then (30, S) else (0, S.step.put s ⟨f.bytes.take n.toNat, min f.synced n⟩)
set_option maxHeartbeats 4000000 in
set_option maxRecDepth 100000 in
theorem trunc1_calls (w : World) (base d mb fb nx k : Nat) (G : ByteArray → Option (Nat × Value)) (S : DevS) (s : ByteArray) (v : Value) (f : FileS) (hD : DevG w base d mb G S) (hG : G s = some (fb, v)) (hf : S.file s = some f) (hk : k ≤ f.bytes.length) (hlen : f.bytes.length ≤ 262144) (hsy : 0 ≤ f.synced ∧ f.synced ≤ f.bytes.length) (hnx : w.heap[nx]? = some (.cells #[.int .i64 k] 3 (0, 0))) :
    Calls Tryd.prog 29 #[.pointer (some ⟨fb, 0, none⟩), .pointer (some ⟨nx, 0, none⟩)] w fun e w' => (∃ v, e = .returned v) ∧ ∃ G', DevG w' base d mb G' (S.put s ⟨f.bytes.take k, min f.synced k⟩) ∧ Only (OwnD d mb G) w w' ∧ NewD w.heap.size d mb G G' := by
  obtain ⟨f', hf', hfa⟩ := hD.file s _ hG
  obtain rfl : f' = f := Option.some.inj (hf'.symm.trans hf)
  obtain ⟨A, c, hv, hc⟩ := hfa.2.form
  have hv' : v = .slice A f'.bytes.length c := hv
  subst hv'
  have hrow : w.heap[fb]? = some (.cells #[.slice A f'.bytes.length c, .int .i64 f'.synced] fT (0, 0)) := hfa.1
  obtain ⟨n, hn⟩ : ∃ x, x = f'.bytes.length := ⟨_, rfl⟩
  obtain ⟨sy, hs⟩ : ∃ x, x = f'.synced := ⟨_, rfl⟩
  have H := Lib.hid (And.intro hrow (And.intro hD (And.intro hG (And.intro hf (And.intro hn hs)))))
  rw [← hn, ← hs] at hrow
  rw [← hn] at hk hlen hc
  rw [← hn, ← hs] at hsy
  have E1 : w.cell? ⟨fb, 0, none⟩ = some (.slice A n c) := (cell_of_row _ _ 0 _ _ _ hrow).trans rfl
  have E2 : w.cell? ⟨fb, 1, none⟩ = some (.int .i64 sy) := (cell_of_row _ _ 1 _ _ _ hrow).trans rfl
  have E3 : w.cell? ⟨nx, 0, none⟩ = some (.int .i64 k) := (cell_of_row _ _ 0 _ _ _ hnx).trans rfl
  have HROW := Lib.hid hrow
  have F1 : w.frozen? ⟨fb, 0, none⟩ = false := frozen_of_row w fb 0 _ _ hrow
  have F2 : w.frozen? ⟨fb, 1, none⟩ = false := frozen_of_row w fb 1 _ _ hrow
  have hne : nx ≠ fb := fun e => by
    rw [e, hrow] at hnx
    injection hnx with h1
    injection h1 with h2 h3 h4
    exact absurd h3 (by decide)
  have E4 : (w.setCell ⟨fb, 0, none⟩ (.slice A k k)).cell? ⟨nx, 0, none⟩ = some (.int .i64 k) := (cell_of_row _ _ 0 _ _ _ ((heap_setCell_other w ⟨fb, 0, none⟩ nx (.slice A k k) hne).trans hnx)).trans rfl
  have HNE := Lib.hid hne
  clear hne
  have k1 : k ≤ c := by omega
  have k2 : (0 : Int) ≤ k := by omega
  clear hf' hfa hv hrow hD hG hf hnx hn hs
  go_enter Tryd.func29, Tryd.ntmps29
  go_upto_region 0 with (fail)
  go_region
  have hmin : (if (k : Int) < sy then (k : Int) else sy) = min sy k := by omega
  first | rw [hmin] | skip
  have G5 := heap_setCell_same w fb 0 _ _ (.slice A k k) HROW.out
  have G6 := heap_setCell_same (w.setCell ⟨fb, 0, none⟩ (.slice A k k)) fb 1 _ _ (.int .i64 (min sy k)) G5
  have hk6 : ∀ i, i ≠ fb → ((w.setCell ⟨fb, 0, none⟩ (.slice A k k)).setCell ⟨fb, 1, none⟩ (.int .i64 (min sy k))).drew.heap[i]? = w.heap[i]? := fun i h => (heap_setCell_other _ ⟨fb, 1, none⟩ i _ h).trans (heap_setCell_other w ⟨fb, 0, none⟩ i _ h)
  have hB : Below 0 w ((w.setCell ⟨fb, 0, none⟩ (.slice A k k)).setCell ⟨fb, 1, none⟩ (.int .i64 (min sy k))).drew := below_drew (((Below.refl 0 w).setCell (p := ⟨fb, 0, none⟩) (Nat.zero_le _) _).setCell (p := ⟨fb, 1, none⟩) (Nat.zero_le _) _)
  have hG := H.out.2.2.1
  have hD := H.out.2.1
  have hk' : k ≤ f'.bytes.length := by have := H.out.2.2.2.2.1; omega
  have hN := hD.cutOff (n := k) (sy := min sy k) hG H.out.2.2.2.1 hk' (w' := ((w.setCell ⟨fb, 0, none⟩ (.slice A k k)).setCell ⟨fb, 1, none⟩ (.int .i64 (min sy k))).drew) G6 (fun i _ h => hk6 i h)
  rw [H.out.2.2.2.2.2] at hN hB hk6 ⊢
  refine ⟨rfl, .tuple #[], by simp [results, Tryd.results29], ⟨_, rfl⟩, _, hN, ?_, fun i h => Or.inl (newD_cut hG i h)⟩
  exact ⟨hB.os, hB.tape, hB.output, hB.size, fun i _ hn => hk6 i (fun e => hn (Or.inr (Or.inr ⟨s, _, hG, Or.inl e⟩)))⟩
theorem Did.after {w w1 w' : World} {base d mb : Nat} {G : ByteArray → Option (Nat × Value)} {S S' : DevS} {v : Value} {e : Ending} (h : Did w1 base d mb G v S' e w') (hD : DevG w base d mb G S) (hb : Below w.heap.size w w1) : Did w base d mb G v S' e w' := by
  obtain ⟨he, G', r1, r2, r3⟩ := h
  exact ⟨he, G', r1, (Only.of_below hb).trans r2, fun k hk => (r3 k hk).imp id (fun h => Nat.le_trans hb.size h)⟩
set_option maxHeartbeats 2000000 in
set_option maxRecDepth 100000 in
theorem truncate_calls (w : World) (base d mb : Nat) (G : ByteArray → Option (Nat × Value)) (S : DevS) (s : ByteArray) (z : Int) (hD : DevG w base d mb G S) (hF : Fine S) (hs : s.size ≤ maxLen) :
    Calls Tryd.prog 13 #[.pointer (some ⟨d, 0, none⟩), .string s, .int .i64 z] w (Did w base d mb G (errV (trnS S s z).1) (trnS S s z).2) := by
  have b1 := below_alloc (Below.refl w.heap.size w) (Obj.cells #[.int .i64 z] 3 (0, 0))
  have hnx := heap_alloc_new w (Obj.cells #[.int .i64 z] 3 (0, 0))
  have hD0 := hD.below b1
  obtain ⟨W0, hW0⟩ : ∃ x, x = w.alloc (Obj.cells #[.int .i64 z] 3 (0, 0)) := ⟨_, rfl⟩
  rw [← hW0] at b1 hnx hD0
  have HW := Lib.hid hW0
  have C0 : W0.cell? ⟨d, 0, none⟩ = some (.map (some mb)) := (cell_of_row _ _ 0 _ _ _ hD0.cell).trans rfl
  have CN : W0.cell? ⟨w.heap.size, 0, none⟩ = some (.int .i64 z) := (cell_of_row _ _ 0 _ _ _ hnx).trans rfl
  cases hG : G s with
  | none =>
    have hf := hD.absent s hG
    have e1 : trnS S s z = (10, S) := by unfold trnS; rw [hf]
    have HD := Lib.hid (And.intro hD (And.intro hD0 (And.intro hG (And.intro b1 e1))))
    have HON := Lib.hid (fun W hb => on_none W base d mb G S s 29 #[.pointer (some ⟨w.heap.size, 0, none⟩)] (hD0.below (w' := W) hb) hG hs)
    clear hD hD0 hG hf b1 hnx e1 hF hW0
    go_enter Tryd.func13, Tryd.ntmps13
    go_upto_region 1 with (fail)
    rw [← HW.out]
    go_upto_region 2 with (refine wpList_pure rfl (.tuple #[.pointer none, .bool false]) (looks_ (.tmp 13) (.tmp 14) 40 rfl 46 Tryd.underlying9 Tryd.underlying40 (.pointer none) (zero_fp _) mb _ _ rfl HD.out.2.1.map s rfl hs (.pointer none) false (by simp only [HD.out.2.2.1]; rfl) (by simp only [HD.out.2.2.1]; rfl)) ?_)
    go_quiet (fail)
    have HB := Lib.hid (below_drew (Below.refl W0.heap.size W0))
    have hq : Hid (Below W0.heap.size W0 (W0.drewN nq)) := Lib.hid ⟨rfl, rfl, rfl, Nat.le_refl _, fun _ _ => rfl⟩
    generalize W0.drewN nq = W1 at hq ⊢
    go_wp2_with fail
    go_at_call 23
    refine (HON.out W1 hq.out).mono ?_
    rintro e w4 ⟨rfl, h4⟩
    have H4 := Lib.hid h4
    clear h4
    go_wp2
    go_ret
    rw [HD.out.2.2.2.2]
    exact Did.still _ HD.out.1 ((HD.out.2.2.2.1.trans (hq.out.mono HD.out.2.2.2.1.size)).trans (H4.out.mono (Nat.le_trans HD.out.2.2.2.1.size hq.out.size)))
  | some p =>
    obtain ⟨fb, v⟩ := p
    obtain ⟨f, hf, hfa⟩ := hD0.file s _ hG
    obtain ⟨A, c, hv, hc⟩ := hfa.2.form
    have hv' : v = .slice A f.bytes.length c := hv
    subst hv'
    have hfine := hF.file s f hf
    obtain ⟨n, hn⟩ : ∃ x, x = f.bytes.length := ⟨_, rfl⟩
    have CF : W0.cell? ⟨fb, 0, none⟩ = some (.slice A n c) := by rw [hn]; exact (cell_of_row _ _ 0 _ _ _ hfa.1).trans rfl
    have e1 : trnS S s z = if z < 0 ∨ (n : Int) < z then (1, S) else if S.left = 0 then (30, S) else (0, S.step.put s ⟨f.bytes.take z.toNat, min f.synced z⟩) := by unfold trnS; rw [hf, hn]
    have hn2 : n ≤ 262144 := by omega
    have HD := Lib.hid (And.intro hD (And.intro hD0 (And.intro hG (And.intro b1 (And.intro e1 (And.intro hn (And.intro hfine (And.intro hF (And.intro hf hnx)))))))))
    clear hD hD0 hG hf b1 hnx e1 hF hW0 hfa hv hc hn hfine
    by_cases hbad : z < 0 ∨ (n : Int) < z
    · have e2 : trnS S s z = (1, S) := by rw [HD.out.2.2.2.2.1, if_pos hbad]
      have HE2 := Lib.hid e2
      clear e2
      by_cases hz : z < 0
      all_goals
        have hz2 : z < 0 ∨ (n : Int) < z := hbad
        clear hbad
        replace hz2 := hz2.resolve_left
        first | (have hz3 : (n : Int) < z := hz2 hz) | skip
        clear hz2
        go_enter Tryd.func13, Tryd.ntmps13
        go_upto_region 1 with (fail)
        rw [← HW.out]
        go_upto_region 2 with (refine wpList_pure rfl (.tuple #[.pointer (some ⟨fb, 0, none⟩), .bool true]) (looks_ (.tmp 13) (.tmp 14) 40 rfl 46 Tryd.underlying9 Tryd.underlying40 (.pointer none) (zero_fp _) mb _ _ rfl HD.out.2.1.map s rfl hs (.pointer (some ⟨fb, 0, none⟩)) true (by simp only [HD.out.2.2.1]; rfl) (by simp only [HD.out.2.2.1]; rfl)) ?_)
        go_quiet (fail)
        have hq : Hid (Below W0.heap.size W0 (W0.drewN nq)) := Lib.hid ⟨rfl, rfl, rfl, Nat.le_refl _, fun _ _ => rfl⟩
        generalize W0.drewN nq = W1 at hq ⊢
        go_wp2
        go_ret
        rw [HE2.out]
        exact Did.still _ HD.out.1 (HD.out.2.2.2.1.trans (hq.out.mono HD.out.2.2.2.1.size))
    · have hz : ¬ z < 0 := fun h => hbad (Or.inl h)
      have hz2 : ¬ (n : Int) < z := fun h => hbad (Or.inr h)
      have e2 : trnS S s z = if S.left = 0 then (30, S) else (0, S.step.put s ⟨f.bytes.take z.toNat, min f.synced z⟩) := by rw [HD.out.2.2.2.2.1, if_neg hbad]
      have HE2 := Lib.hid e2
      obtain ⟨k, hk⟩ : ∃ k : Nat, (k : Int) = z := ⟨z.toNat, by omega⟩
      have HON := Lib.hid (fun W (hb : Below W0.heap.size W0 W) => on_some W base d mb G S s (fb, .slice A f.bytes.length c) 29 Tryd.f29 Tryd.func29 rfl rfl #[.pointer (some ⟨w.heap.size, 0, none⟩)] (HD.out.2.1.below hb) HD.out.2.2.2.2.2.2.2.1 HD.out.2.2.1 hs (fun w' => Did W base d mb G (errV 0) (S.step.put s ⟨f.bytes.take k, min f.synced k⟩) (.returned (errV 0)) w') (fun w1 h1 ho => by
        refine (trunc1_calls w1 base d mb fb w.heap.size k G S.step s _ f h1 HD.out.2.2.1 HD.out.2.2.2.2.2.2.2.2.1 (by have := HD.out.2.2.2.2.2.1; omega) HD.out.2.2.2.2.2.2.1.1 HD.out.2.2.2.2.2.2.1.2 ?_).mono ?_
        · have hnx := HD.out.2.2.2.2.2.2.2.2.2
          rw [hk]
          have hlt : w.heap.size < W.heap.size := Nat.lt_of_lt_of_le (blkLt hnx) hb.size
          have hno : ¬ OwnD d mb G w.heap.size := fun h => Nat.lt_irrefl _ (HD.out.1.own_lt _ h)
          exact (ho.block _ hlt hno).trans ((hb.block _ (blkLt hnx)).trans hnx)
        · rintro e w' ⟨he, h⟩
          exact ⟨he, Did.of _ ho h⟩))
      have HK := Lib.hid hk
      clear hbad e2 hk
      go_enter Tryd.func13, Tryd.ntmps13
      go_upto_region 1 with (fail)
      rw [← HW.out]
      go_upto_region 2 with (refine wpList_pure rfl (.tuple #[.pointer (some ⟨fb, 0, none⟩), .bool true]) (looks_ (.tmp 13) (.tmp 14) 40 rfl 46 Tryd.underlying9 Tryd.underlying40 (.pointer none) (zero_fp _) mb _ _ rfl HD.out.2.1.map s rfl hs (.pointer (some ⟨fb, 0, none⟩)) true (by simp only [HD.out.2.2.1]; rfl) (by simp only [HD.out.2.2.1]; rfl)) ?_)
      go_quiet (fail)
      have hq : Hid (Below W0.heap.size W0 (W0.drewN nq)) := Lib.hid ⟨rfl, rfl, rfl, Nat.le_refl _, fun _ _ => rfl⟩
      generalize W0.drewN nq = W1 at hq ⊢
      go_wp2_with fail
      go_at_call 23
      refine (HON.out W1 hq.out).mono ?_
      rintro e w4 ⟨k4, rfl, h4⟩
      have H4 := Lib.hid h4
      clear h4
      go_wp2
      go_ret
      have hB : Below w.heap.size w W1 := HD.out.2.2.2.1.trans (hq.out.mono HD.out.2.2.2.1.size)
      rw [HE2.out]
      rcases H4.out with ⟨h0, rfl, hb⟩ | ⟨h0, rfl, hq⟩
      · rw [if_pos h0]
        exact Did.still _ HD.out.1 (hB.trans (hb.mono hB.size))
      · rw [if_neg h0, show z.toNat = k from by have := HK.out; omega, ← HK.out]
        exact hq.after HD.out.1 hB
end Go.Proofs.YtnmbkaccoaeijaaDoor

/- The device's methods walked: Remove, Rename. -/
namespace Go.Proofs.YtnmbkaccoaeijaaDoor
open Go.RowKit Go.Proofs.YtnmbkaccoaeijaaDoorW.PrintWords Go.Proofs.YtnmbkaccoaeijaaDoorW.PrintLast
def rg32_0_T : Bool × List (List Nat × List Nat) := (true, [([], []), ([0], [0]), ([1], [1]), ([2], [2]), ([], []), ([3, 4], [3, 4])])
def rg32_0_B : List Nat := [0, 1, 3, 7, 0, 31]
theorem rg32_0_tab : rtab .any (opsOf Tryd.f32 0) = rg32_0_T := by kernel_rfl
theorem rg32_0_bits : waitsOk rg32_0_T.2 rg32_0_B = true := by kernel_rfl
def rg30_0_T : Bool × List (List Nat × List Nat) := (true, [([], []), ([0], [0]), ([1], [1]), ([2], [2]), ([], []), ([3, 4], [3, 4])])
def rg30_0_B : List Nat := [0, 1, 3, 7, 0, 31]
theorem rg30_0_tab : rtab .any (opsOf Tryd.f30 0) = rg30_0_T := by kernel_rfl
theorem rg30_0_bits : waitsOk rg30_0_T.2 rg30_0_B = true := by kernel_rfl
def rg30_1_T : Bool × List (List Nat × List Nat) := (true, [([], []), ([0], [0]), ([1], [1]), ([2], [2]), ([], []), ([], []), ([3, 4, 5, 0, 1, 2, 3, 4, 5], [3, 4, 5])])
def rg30_1_B : List Nat := [0, 1, 3, 7, 0, 0, 63]
theorem rg30_1_tab : rtab .any (opsOf Tryd.f30 1) = rg30_1_T := by kernel_rfl
theorem rg30_1_bits : waitsOk rg30_1_T.2 rg30_1_B = true := by kernel_rfl
def DevS.del (S : DevS) (s : ByteArray) : DevS := { S with file := fun t => if t = s then none else S.file t, count := if (S.file s).isSome then S.count - 1 else S.count }
def remS (S : DevS) (s : ByteArray) : Int × DevS :=
  match S.file s with
  | none => (10, S)
  | some _ => if S.left = 0 then (30, S) else (0, S.step.del s)
def renS (S : DevS) (s t : ByteArray) : Int × DevS :=
  if nameOk t = false then (8, S) else
  match S.file s with
  | none => (10, S)
  | some f => if S.left = 0 then (30, S) else (0, (S.step.del s).put t f)
section
variable {P : Program} {ops : Array Oper} {Q : Exit → Act → World → Prop}
theorem mapD_ {oi : Oper} {a : Act} {w : World} {K : Act → World → Prop} {sT : TypeId} (hw : Region.wanted oi (yielded ops a.tmps) = true) (hN : oi.dst = none) (m x : Operand) (t : TypeId) (hop : oi.op = Op.call { callee := Callee.builtin Builtin.delete, args := #[m, x], argTypes := #[t, sT] }) (e : TypeId) (hs : P.underlying sT = some .string) (ht : P.underlying t = some (.map sT e))
    (b : Nat) (M : ByteArray → Option Value) (c : Nat) (hm : a.eval m = .map (some b)) (h : MapS P sT w b M c) (s : ByteArray) (hx : a.eval x = .string s) (hl : s.size ≤ maxLen)
    (hK : ∀ w', MapS P sT w' b (delM M s) (if (M s).isSome then c - 1 else c) → w.mapTurned w' b → K a w') : if Region.wanted oi (yielded ops a.tmps) = true then Oper.wp P oi a w K Q else K (a.put none undef) w := by
  obtain ⟨w', hrun, r1, r2⟩ := h.drop hs ht hl oi.type
  exact value_ (v := .tuple #[]) hw hN (by
    unfold execOp
    simp [hop, resolve, invoke, builtin, hm, hx, hrun, Result.andThen]) (hK w' r1 r2)
end
section
variable {w w' : World} {base d mb : Nat} {G : ByteArray → Option (Nat × Value)} {S : DevS}
theorem DevG.dropped (h : DevG w base d mb G S) (s : ByteArray) {c' : Nat} (hm : MapS Tryd.prog sT w' mb (delM (fun t => (G t).map ptrOf) s) c') (hc : c' = if (S.file s).isSome then S.count - 1 else S.count) (hs : ∀ k, k < w.heap.size → k ≠ mb → w'.heap[k]? = w.heap[k]?) :
    DevG w' base d mb (fun t => if t = s then none else G t) (S.del s) := by
  obtain ⟨n1, n2⟩ := h.ne
  have hlt := h.own_lt
  refine ⟨(hs d (hlt d (Or.inl rfl)) n1).trans h.cell, ?_, fun t p hp => ?_, fun t ht => ?_, fun t u p q hp hq htu => ?_, h.bd, h.bm, fun t p hp => ?_⟩
  · have e : (fun t => (if t = s then none else G t).map ptrOf) = delM (fun t => (G t).map ptrOf) s := by
      funext t
      unfold delM
      by_cases ht : t = s <;> simp [ht]
    show MapS Tryd.prog sT w' mb (fun t => (if t = s then none else G t).map ptrOf) (if (S.file s).isSome then S.count - 1 else S.count)
    rw [e, ← hc]
    exact hm
  · by_cases ht : t = s
    · rw [if_pos ht] at hp; cases hp
    · rw [if_neg ht] at hp
      obtain ⟨f, h1, h2, h3⟩ := h.file t p hp
      obtain ⟨m1, m2, m3⟩ := n2 t p hp
      refine ⟨f, by simp [DevS.del, ht, h1], (hs p.1 (hlt _ (Or.inr (Or.inr ⟨t, p, hp, Or.inl rfl⟩))) m2).trans h2, h3.same (fun g hg => hs g (hlt _ (Or.inr (Or.inr ⟨t, p, hp, Or.inr hg⟩))) (m3 g hg).2.1)⟩
  · by_cases h1 : t = s
    · simp [DevS.del, h1]
    · rw [if_neg h1] at ht
      simp [DevS.del, h1, h.absent t ht]
  · by_cases h1 : t = s
    · rw [if_pos h1] at hp; cases hp
    · by_cases h2 : u = s
      · rw [if_pos h2] at hq; cases hq
      · rw [if_neg h1] at hp
        rw [if_neg h2] at hq
        exact h.apart t u p q hp hq htu
  · by_cases h1 : t = s
    · rw [if_pos h1] at hp; cases hp
    · rw [if_neg h1] at hp
      exact h.bf t p hp
theorem DevG.moved (h : DevG w base d mb G S) (s t : ByteArray) (p : Nat × Value) (f : FileS) (hG : G s = some p) (hf : S.file s = some f) {c' : Nat} (hm : MapS Tryd.prog sT w' mb (putM (delM (fun t => (G t).map ptrOf) s) t (ptrOf p)) c') (hc : c' = ((S.del s).put t f).count) (hs : ∀ k, k < w.heap.size → k ≠ mb → w'.heap[k]? = w.heap[k]?) :
    DevG w' base d mb (fun u => if u = t then some p else if u = s then none else G u) ((S.del s).put t f) := by
  obtain ⟨n1, n2⟩ := h.ne
  have hlt := h.own_lt
  have hkeep : ∀ u q, G u = some q → ∃ f, S.file u = some f ∧ FileAt w' base q.1 q.2 f := by
    intro u q hq
    obtain ⟨f, h1, h2, h3⟩ := h.file u q hq
    obtain ⟨m1, m2, m3⟩ := n2 u q hq
    exact ⟨f, h1, (hs q.1 (hlt _ (Or.inr (Or.inr ⟨u, q, hq, Or.inl rfl⟩))) m2).trans h2, h3.same (fun g hg => hs g (hlt _ (Or.inr (Or.inr ⟨u, q, hq, Or.inr hg⟩))) (m3 g hg).2.1)⟩
  refine ⟨(hs d (hlt d (Or.inl rfl)) n1).trans h.cell, ?_, fun u q hq => ?_, fun u hu => ?_, fun u v q r hq hr huv => ?_, h.bd, h.bm, fun u q hq => ?_⟩
  · have e : (fun u => (if u = t then some p else if u = s then none else G u).map ptrOf) = putM (delM (fun t => (G t).map ptrOf) s) t (ptrOf p) := by
      funext u
      unfold putM delM
      by_cases h1 : u = t
      · simp [h1]
      · by_cases h2 : u = s
        · subst h2
          simp [h1]
        · simp [h1, h2]
    show MapS Tryd.prog sT w' mb (fun u => (if u = t then some p else if u = s then none else G u).map ptrOf) _
    rw [e, ← hc]
    exact hm
  · by_cases h1 : u = t
    · rw [if_pos h1] at hq
      obtain rfl := Option.some.inj hq
      obtain ⟨f', e1, e2⟩ := hkeep s p hG
      obtain rfl := Option.some.inj (e1.symm.trans hf)
      exact ⟨f', by simp [DevS.put, h1], e2⟩
    · rw [if_neg h1] at hq
      by_cases h2 : u = s
      · rw [if_pos h2] at hq; cases hq
      · rw [if_neg h2] at hq
        obtain ⟨f', e1, e2⟩ := hkeep u q hq
        exact ⟨f', by simp [DevS.put, DevS.del, h1, h2, e1], e2⟩
  · by_cases h1 : u = t
    · rw [if_pos h1] at hu; cases hu
    · rw [if_neg h1] at hu
      by_cases h2 : u = s
      · simp only [DevS.put, DevS.del, if_neg h1, if_pos h2]
      · rw [if_neg h2] at hu
        simp [DevS.put, DevS.del, h1, h2, h.absent u hu]
  · have key : ∀ v r, v ≠ s → G v = some r → p.1 ≠ r.1 ∧ (p.2.ownBlock = none ∨ p.2.ownBlock ≠ r.2.ownBlock) := fun v r hv hr => h.apart s v p r hG hr (Ne.symm hv)
    have key2 : ∀ v r, v ≠ s → G v = some r → r.1 ≠ p.1 ∧ (r.2.ownBlock = none ∨ r.2.ownBlock ≠ p.2.ownBlock) := fun v r hv hr => h.apart v s r p hr hG hv
    by_cases h1 : u = t
    · rw [if_pos h1] at hq
      obtain rfl := Option.some.inj hq
      have h2 : v ≠ t := fun e => huv (h1.trans e.symm)
      rw [if_neg h2] at hr
      by_cases h3 : v = s
      · rw [if_pos h3] at hr; cases hr
      · rw [if_neg h3] at hr
        exact key v r h3 hr
    · rw [if_neg h1] at hq
      by_cases h2 : u = s
      · rw [if_pos h2] at hq; cases hq
      · rw [if_neg h2] at hq
        by_cases h3 : v = t
        · rw [if_pos h3] at hr
          obtain rfl := Option.some.inj hr
          exact key2 u q h2 hq
        · rw [if_neg h3] at hr
          by_cases h4 : v = s
          · rw [if_pos h4] at hr; cases hr
          · rw [if_neg h4] at hr
            exact h.apart u v q r hq hr huv
  · by_cases h1 : u = t
    · rw [if_pos h1] at hq
      obtain rfl := Option.some.inj hq
      exact h.bf s p hG
    · rw [if_neg h1] at hq
      by_cases h2 : u = s
      · rw [if_pos h2] at hq; cases hq
      · rw [if_neg h2] at hq
        exact h.bf u q hq
theorem newD_drop (s : ByteArray) : ∀ k, OwnD d mb (fun t => if t = s then none else G t) k → OwnD d mb G k := by
  rintro k (h | h | ⟨t, q, hq, hk⟩)
  · exact Or.inl h
  · exact Or.inr (Or.inl h)
  · replace hq : (if t = s then none else G t) = some q := hq
    by_cases ht : t = s
    · rw [if_pos ht] at hq; cases hq
    · rw [if_neg ht] at hq
      exact Or.inr (Or.inr ⟨t, q, hq, hk⟩)
theorem newD_move {s t : ByteArray} {p : Nat × Value} (hG : G s = some p) : ∀ k, OwnD d mb (fun u => if u = t then some p else if u = s then none else G u) k → OwnD d mb G k := by
  rintro k (h | h | ⟨u, q, hq, hk⟩)
  · exact Or.inl h
  · exact Or.inr (Or.inl h)
  · replace hq : (if u = t then some p else if u = s then none else G u) = some q := hq
    by_cases h1 : u = t
    · rw [if_pos h1] at hq
      obtain rfl := Option.some.inj hq
      exact Or.inr (Or.inr ⟨s, _, hG, hk⟩)
    · rw [if_neg h1] at hq
      by_cases h2 : u = s
      · rw [if_pos h2] at hq; cases hq
      · rw [if_neg h2] at hq
        exact Or.inr (Or.inr ⟨u, q, hq, hk⟩)
end
set_option maxHeartbeats 2000000 in
set_option maxRecDepth 100000 in
theorem remove1_calls (w : World) (base d mb dx nx : Nat) (fv : Value) (G : ByteArray → Option (Nat × Value)) (S : DevS) (s : ByteArray) (hD : DevG w base d mb G S) (hs : s.size ≤ maxLen) (hdx : w.heap[dx]? = some (.cells #[.pointer (some ⟨d, 0, none⟩)] 22 (0, 0))) (hnx : w.heap[nx]? = some (.cells #[.string s] 9 (0, 0))) :
    Calls Tryd.prog 32 #[fv, .pointer (some ⟨dx, 0, none⟩), .pointer (some ⟨nx, 0, none⟩)] w fun e w' => (∃ v, e = .returned v) ∧ ∃ G', DevG w' base d mb G' (S.del s) ∧ Only (OwnD d mb G) w w' ∧ NewD w.heap.size d mb G G' := by
  have E1 : w.drew.cell? ⟨dx, 0, none⟩ = some (.pointer (some ⟨d, 0, none⟩)) := (cell_of_row _ _ 0 _ _ _ hdx).trans rfl
  have E2 : w.drew.cell? ⟨d, 0, none⟩ = some (.map (some mb)) := (cell_of_row _ _ 0 _ _ _ hD.cell).trans rfl
  have E3 : w.drew.cell? ⟨nx, 0, none⟩ = some (.string s) := (cell_of_row _ _ 0 _ _ _ hnx).trans rfl
  have M2 := Lib.hid (hD.map.same (w' := w.drew) rfl)
  have H := Lib.hid hD
  clear hD hdx hnx
  go_enter Tryd.func32, Tryd.ntmps32
  go_upto_region 0 with (fail)
  refine start_ (n := 6) (S := fun w' => w'.cell? ⟨dx, 0, none⟩ = some (.pointer (some ⟨d, 0, none⟩)) ∧ w'.cell? ⟨d, 0, none⟩ = some (.map (some mb)) ∧ w'.cell? ⟨nx, 0, none⟩ = some (.string s)) (ds := [5]) (bs 6 0) (by kernel_rfl) rfl (by kernel_rfl) ⟨E1, E2, E3⟩ (fun hHeld => ?_)
  refine with_tabW rg32_0_tab rg32_0_bits (fun HT_ HW_ => ?_)
  refine tk 0 (some 4) (bs 6 1) HT_ HW_ rfl rfl (by kernel_rfl) (fun _ _ _ _ h => h) hHeld ⟨_, .inl ⟨by rfl, by rintro w' ⟨s0, s1, s2⟩; go_simp; with_reducible rfl⟩, _, by simp only [Act.put, sA, sB, sC, i64_w, i32_w]; rfl, ?_⟩
  refine pu 1 (some 5) (bs 6 3) HT_ rfl rfl (by kernel_rfl) (fun _ _ _ _ h => h) ⟨_, .inl ⟨by rfl, fun _ => by go_simp; with_reducible rfl⟩, _, by simp only [Act.put, sA, sB, sC, i64_w, i32_w]; rfl, ?_⟩
  refine pu 2 (some 6) (bs 6 7) HT_ rfl rfl (by kernel_rfl) (fun _ _ _ _ h => h) ⟨_, .inl ⟨by rfl, fun _ => by go_simp; with_reducible rfl⟩, _, by simp only [Act.put, sA, sB, sC, i64_w, i32_w]; rfl, ?_⟩
  refine tk 3 (some 7) (bs 6 15) HT_ HW_ rfl rfl (by kernel_rfl) (fun _ _ _ _ h => h) hHeld ⟨_, .inl ⟨by rfl, by rintro w' ⟨s0, s1, s2⟩; go_simp; with_reducible rfl⟩, _, by simp only [Act.put, sA, sB, sC, i64_w, i32_w]; rfl, ?_⟩
  refine tk 4 (some 8) (bs 6 31) HT_ HW_ rfl rfl (by kernel_rfl) (fun _ _ _ _ h => h) hHeld ⟨_, .inl ⟨by rfl, by rintro w' ⟨s0, s1, s2⟩; go_simp; with_reducible rfl⟩, _, by simp only [Act.put, sA, sB, sC, i64_w, i32_w]; rfl, ?_⟩
  refine la1 5 (none) (bs 6 63) HT_ rfl rfl (by kernel_rfl) (by decide) (fun K hK => ?_)
  refine mapD_ (sT := 9) (by rfl) rfl (.tmp 7) (.tmp 8) 40 rfl 46 Tryd.underlying9 Tryd.underlying40 mb _ _ rfl M2.out s rfl hs ?_
  intro w3 M3 ht3
  refine hK.out _ _ ?_
  clear hK K
  refine done_ (done_of HT_.out (by kernel_rfl)) ?_
  have hD := H.out
  have o : Only (fun k => k = mb) w.drew w3 := Only.map ht3
  have hcnt : (if ((G s).map ptrOf).isSome then S.count - 1 else S.count) = (if (S.file s).isSome then S.count - 1 else S.count) := by
    cases hG : G s with
    | none => rw [hD.absent s hG]; rfl
    | some p =>
      obtain ⟨f, h1, _⟩ := hD.file s p hG
      rw [h1]; rfl
  have hk3 : ∀ k, k < w.heap.size → k ≠ mb → w3.heap[k]? = w.heap[k]? := fun k h1 h2 => ht3.grown.block k h1 (fun e => h2 (Option.some.inj e))
  refine ⟨rfl, .tuple #[], by simp [results, Tryd.results32], ⟨_, rfl⟩, _, hD.dropped s M3 hcnt hk3, ?_, fun k h => Or.inl (newD_drop s k h)⟩
  exact ⟨o.os, o.tape, o.output, o.size, fun k h1 h2 => hk3 k h1 (fun e => h2 (Or.inr (Or.inl e)))⟩
set_option maxHeartbeats 2000000 in
set_option maxRecDepth 100000 in
theorem remove_calls (w : World) (base d mb : Nat) (G : ByteArray → Option (Nat × Value)) (S : DevS) (s : ByteArray) (hD : DevG w base d mb G S) (hF : Fine S) (hs : s.size ≤ maxLen) :
    Calls Tryd.prog 16 #[.pointer (some ⟨d, 0, none⟩), .string s] w (Did w base d mb G (errV (remS S s).1) (remS S s).2) := by
  obtain ⟨W0, hW0⟩ : ∃ x, x = (w.alloc (Obj.cells #[.pointer (some ⟨d, 0, none⟩)] 22 (0, 0))).alloc (Obj.cells #[.string s] 9 (0, 0)) := ⟨_, rfl⟩
  have b1 : Below w.heap.size w W0 := by rw [hW0]; exact below_alloc (below_alloc (Below.refl _ _) _) _
  have hdx : W0.heap[w.heap.size]? = some (.cells #[.pointer (some ⟨d, 0, none⟩)] 22 (0, 0)) := by rw [hW0, heap_alloc_old _ _ (by simp)]; exact heap_alloc_new w _
  have hnx : W0.heap[w.heap.size + 1]? = some (.cells #[.string s] 9 (0, 0)) := by rw [hW0]; have := heap_alloc_new (w.alloc (Obj.cells #[.pointer (some ⟨d, 0, none⟩)] 22 (0, 0))) (Obj.cells #[.string s] 9 (0, 0)); rwa [World.size_alloc] at this
  have C1 : W0.cell? ⟨w.heap.size, 0, none⟩ = some (.pointer (some ⟨d, 0, none⟩)) := (cell_of_row _ _ 0 _ _ _ hdx).trans rfl
  have C2 : W0.cell? ⟨w.heap.size + 1, 0, none⟩ = some (.string s) := (cell_of_row _ _ 0 _ _ _ hnx).trans rfl
  have hD0 := hD.below b1
  have key : Calls Tryd.prog 23 #[.pointer (some ⟨d, 0, none⟩), .string s, .func (.func 32) #[] #[.pointer (some ⟨w.heap.size, 0, none⟩), .pointer (some ⟨w.heap.size + 1, 0, none⟩)]] W0 (Did w base d mb G (errV (remS S s).1) (remS S s).2) := by
    cases hG : G s with
    | none =>
      have hf := hD.absent s hG
      refine (on_none W0 base d mb G S s _ _ hD0 hG hs).mono ?_
      rintro e w' ⟨rfl, hb⟩
      unfold remS
      rw [hf]
      exact Did.still _ hD (b1.trans (hb.mono b1.size))
    | some p =>
      obtain ⟨fb, v⟩ := p
      obtain ⟨f, hf, _⟩ := hD.file s _ hG
      have e1 : remS S s = if S.left = 0 then (30, S) else (0, S.step.del s) := by unfold remS; rw [hf]
      refine (on_some W0 base d mb G S s (fb, v) 32 Tryd.f32 Tryd.func32 rfl rfl #[.pointer (some ⟨w.heap.size, 0, none⟩), .pointer (some ⟨w.heap.size + 1, 0, none⟩)] hD0 hF hG hs (fun w' => Did W0 base d mb G (errV 0) (S.step.del s) (.returned (errV 0)) w') (fun w1 h1 ho => ?_)).mono ?_
      · have hno : ∀ k, w.heap.size ≤ k → ¬ OwnD d mb G k := fun k hk h => by have := hD.own_lt k h; omega
        refine (remove1_calls w1 base d mb w.heap.size (w.heap.size + 1) (.pointer (some ⟨fb, 0, none⟩)) G S.step s h1 hs ((ho.block _ (blkLt hdx) (hno _ (Nat.le_refl _))).trans hdx) ((ho.block _ (blkLt hnx) (hno _ (by omega))).trans hnx)).mono ?_
        rintro e w' ⟨he, h⟩
        exact ⟨he, Did.of _ ho h⟩
      · rintro e w' ⟨k, rfl, ⟨h0, rfl, hb⟩ | ⟨h0, rfl, hq⟩⟩
        · rw [e1, if_pos h0]
          exact Did.still _ hD (b1.trans (hb.mono b1.size))
        · rw [e1, if_neg h0]
          exact hq.after hD b1
  have HK := Lib.hid key
  have HW := Lib.hid hW0
  clear key hD hF hW0 b1 hdx hnx hD0
  go_enter Tryd.func16, Tryd.ntmps16
  go_upto_region 1 with (fail)
  rw [← HW.out]
  go_wp2_with (go_at_call 23; refine HK.out.mono ?_; rintro e w4 ⟨rfl, h4⟩; have H4 := Lib.hid h4; clear h4)
  go_ret
  exact ⟨rfl, H4.out⟩
set_option maxHeartbeats 2000000 in
set_option maxRecDepth 100000 in
theorem rename1_calls (w : World) (base d mb dx sx tx fb : Nat) (v : Value) (G : ByteArray → Option (Nat × Value)) (S : DevS) (s t : ByteArray) (f : FileS) (hD : DevG w base d mb G S) (hG : G s = some (fb, v)) (hf : S.file s = some f) (hc : S.count ≤ 1000) (hs : s.size ≤ maxLen) (ht : t.size ≤ maxLen) (hdx : w.heap[dx]? = some (.cells #[.pointer (some ⟨d, 0, none⟩)] 22 (0, 0))) (hsx : w.heap[sx]? = some (.cells #[.string s] 9 (0, 0))) (htx : w.heap[tx]? = some (.cells #[.string t] 9 (0, 0))) :
    Calls Tryd.prog 30 #[.pointer (some ⟨fb, 0, none⟩), .pointer (some ⟨dx, 0, none⟩), .pointer (some ⟨sx, 0, none⟩), .pointer (some ⟨tx, 0, none⟩)] w fun e w' => (∃ v, e = .returned v) ∧ ∃ G', DevG w' base d mb G' ((S.del s).put t f) ∧ Only (OwnD d mb G) w w' ∧ NewD w.heap.size d mb G G' := by
  have E1 : w.drew.cell? ⟨dx, 0, none⟩ = some (.pointer (some ⟨d, 0, none⟩)) := (cell_of_row _ _ 0 _ _ _ hdx).trans rfl
  have E2 : w.drew.cell? ⟨d, 0, none⟩ = some (.map (some mb)) := (cell_of_row _ _ 0 _ _ _ hD.cell).trans rfl
  have E3 : w.drew.cell? ⟨sx, 0, none⟩ = some (.string s) := (cell_of_row _ _ 0 _ _ _ hsx).trans rfl
  have M2 := Lib.hid (hD.map.same (w' := w.drew) rfl)
  have H := Lib.hid (And.intro hD (And.intro hG (And.intro hf (And.intro hdx htx))))
  clear hD hG hf hdx hsx htx
  go_enter Tryd.func30, Tryd.ntmps30
  go_upto_region 0 with (fail)
  refine start_ (n := 6) (S := fun w' => w'.cell? ⟨dx, 0, none⟩ = some (.pointer (some ⟨d, 0, none⟩)) ∧ w'.cell? ⟨d, 0, none⟩ = some (.map (some mb)) ∧ w'.cell? ⟨sx, 0, none⟩ = some (.string s)) (ds := [5]) (bs 6 0) (by kernel_rfl) rfl (by kernel_rfl) ⟨E1, E2, E3⟩ (fun hHeld => ?_)
  refine with_tabW rg30_0_tab rg30_0_bits (fun HT_ HW_ => ?_)
  refine tk 0 (some 5) (bs 6 1) HT_ HW_ rfl rfl (by kernel_rfl) (fun _ _ _ _ h => h) hHeld ⟨_, .inl ⟨by rfl, by rintro w' ⟨s0, s1, s2⟩; go_simp; with_reducible rfl⟩, _, by simp only [Act.put, sA, sB, sC, i64_w, i32_w]; rfl, ?_⟩
  refine pu 1 (some 6) (bs 6 3) HT_ rfl rfl (by kernel_rfl) (fun _ _ _ _ h => h) ⟨_, .inl ⟨by rfl, fun _ => by go_simp; with_reducible rfl⟩, _, by simp only [Act.put, sA, sB, sC, i64_w, i32_w]; rfl, ?_⟩
  refine pu 2 (some 7) (bs 6 7) HT_ rfl rfl (by kernel_rfl) (fun _ _ _ _ h => h) ⟨_, .inl ⟨by rfl, fun _ => by go_simp; with_reducible rfl⟩, _, by simp only [Act.put, sA, sB, sC, i64_w, i32_w]; rfl, ?_⟩
  refine tk 3 (some 8) (bs 6 15) HT_ HW_ rfl rfl (by kernel_rfl) (fun _ _ _ _ h => h) hHeld ⟨_, .inl ⟨by rfl, by rintro w' ⟨s0, s1, s2⟩; go_simp; with_reducible rfl⟩, _, by simp only [Act.put, sA, sB, sC, i64_w, i32_w]; rfl, ?_⟩
  refine tk 4 (some 9) (bs 6 31) HT_ HW_ rfl rfl (by kernel_rfl) (fun _ _ _ _ h => h) hHeld ⟨_, .inl ⟨by rfl, by rintro w' ⟨s0, s1, s2⟩; go_simp; with_reducible rfl⟩, _, by simp only [Act.put, sA, sB, sC, i64_w, i32_w]; rfl, ?_⟩
  refine la1 5 (none) (bs 6 63) HT_ rfl rfl (by kernel_rfl) (by decide) (fun K hK => ?_)
  refine mapD_ (sT := 9) (by rfl) rfl (.tmp 8) (.tmp 9) 40 rfl 46 Tryd.underlying9 Tryd.underlying40 mb _ _ rfl M2.out s rfl hs ?_
  intro w3 M3 ht3
  refine hK.out _ _ ?_
  clear hK K
  refine done_ (done_of HT_.out (by kernel_rfl)) ?_
  have o3 : Only (fun k => k = mb) w.drew w3 := Only.map ht3
  have hk3 : ∀ k, k < w.heap.size → k ≠ mb → w3.heap[k]? = w.heap[k]? := fun k h1 h2 => ht3.grown.block k h1 (fun e => h2 (Option.some.inj e))
  obtain ⟨n1, n2⟩ := H.out.1.ne
  have hne : ∀ k cs tt, w.heap[k]? = some (Obj.cells cs tt (0, 0)) → k ≠ mb := fun k cs tt hk e => by
    obtain ⟨es, cl, hm⟩ := H.out.1.map.map
    rw [e, hm] at hk
    cases hk
  have keep : ∀ k cs tt, w.heap[k]? = some (Obj.cells cs tt (0, 0)) → w3.heap[k]? = some (Obj.cells cs tt (0, 0)) := fun k cs tt hk => (hk3 k (blkLt hk) (hne k cs tt hk)).trans hk
  have E4 : w3.drew.cell? ⟨dx, 0, none⟩ = some (.pointer (some ⟨d, 0, none⟩)) := (cell_of_row _ _ 0 _ _ _ (keep _ _ _ H.out.2.2.2.1)).trans rfl
  have E5 : w3.drew.cell? ⟨d, 0, none⟩ = some (.map (some mb)) := (cell_of_row _ _ 0 _ _ _ (keep _ _ _ H.out.1.cell)).trans rfl
  have E6 : w3.drew.cell? ⟨tx, 0, none⟩ = some (.string t) := (cell_of_row _ _ 0 _ _ _ (keep _ _ _ H.out.2.2.2.2)).trans rfl
  have M4 := Lib.hid (M3.same (w' := w3.drew) rfl)
  have HM := Lib.hid (And.intro hk3 (And.intro o3.size (And.intro o3.os (And.intro o3.tape o3.output))))
  clear M3 o3 hk3 n1 n2 hne keep E1 E2 E3 ht3
  go_upto_region 1 with (fail)
  refine start_ (n := 7) (S := fun w' => w'.cell? ⟨dx, 0, none⟩ = some (.pointer (some ⟨d, 0, none⟩)) ∧ w'.cell? ⟨d, 0, none⟩ = some (.map (some mb)) ∧ w'.cell? ⟨tx, 0, none⟩ = some (.string t)) (ds := [6]) (bs 7 0) (by kernel_rfl) rfl (by kernel_rfl) ⟨E4, E5, E6⟩ (fun hHeld => ?_)
  refine with_tabW rg30_1_tab rg30_1_bits (fun HT_ HW_ => ?_)
  refine pu 5 (some 15) (bs 7 32) HT_ rfl rfl (by kernel_rfl) (fun _ _ _ _ h => h) ⟨_, .inl ⟨by rfl, fun _ => by go_simp; with_reducible rfl⟩, _, by simp only [Act.put, sA, sB, sC, i64_w, i32_w]; rfl, ?_⟩
  refine tk 0 (some 10) (bs 7 33) HT_ HW_ rfl rfl (by kernel_rfl) (fun _ _ _ _ h => h) hHeld ⟨_, .inl ⟨by rfl, by rintro w' ⟨s0, s1, s2⟩; go_simp; with_reducible rfl⟩, _, by simp only [Act.put, sA, sB, sC, i64_w, i32_w]; rfl, ?_⟩
  refine pu 1 (some 11) (bs 7 35) HT_ rfl rfl (by kernel_rfl) (fun _ _ _ _ h => h) ⟨_, .inl ⟨by rfl, fun _ => by go_simp; with_reducible rfl⟩, _, by simp only [Act.put, sA, sB, sC, i64_w, i32_w]; rfl, ?_⟩
  refine pu 2 (some 12) (bs 7 39) HT_ rfl rfl (by kernel_rfl) (fun _ _ _ _ h => h) ⟨_, .inl ⟨by rfl, fun _ => by go_simp; with_reducible rfl⟩, _, by simp only [Act.put, sA, sB, sC, i64_w, i32_w]; rfl, ?_⟩
  refine tk 3 (some 13) (bs 7 47) HT_ HW_ rfl rfl (by kernel_rfl) (fun _ _ _ _ h => h) hHeld ⟨_, .inl ⟨by rfl, by rintro w' ⟨s0, s1, s2⟩; go_simp; with_reducible rfl⟩, _, by simp only [Act.put, sA, sB, sC, i64_w, i32_w]; rfl, ?_⟩
  refine tk 4 (some 14) (bs 7 63) HT_ HW_ rfl rfl (by kernel_rfl) (fun _ _ _ _ h => h) hHeld ⟨_, .inl ⟨by rfl, by rintro w' ⟨s0, s1, s2⟩; go_simp; with_reducible rfl⟩, _, by simp only [Act.put, sA, sB, sC, i64_w, i32_w]; rfl, ?_⟩
  refine la1 6 (none) (bs 7 127) HT_ rfl rfl (by kernel_rfl) (by decide) (fun K hK => ?_)
  refine mapU_ (sT := 9) (by rfl) rfl (.tmp 13) (.tmp 14) (.tmp 15) 40 rfl 46 Tryd.underlying9 Tryd.underlying40 mb _ _ rfl M4.out t rfl ht (.pointer (some ⟨fb, 0, none⟩)) rfl (by unfold maxLen; split <;> omega) ?_
  intro w5 M5 ht5
  refine hK.out _ _ ?_
  clear hK K
  refine done_ (done_of HT_.out (by kernel_rfl)) ?_
  have hk5 : ∀ k, k < w.heap.size → k ≠ mb → w5.heap[k]? = w.heap[k]? := fun k h1 h2 => (ht5.grown.block k (Nat.lt_of_lt_of_le h1 HM.out.2.1) (fun e => h2 (Option.some.inj e))).trans (HM.out.1 k h1 h2)
  have o5 : Only (fun k => k = mb) w3.drew w5 := Only.map ht5
  have hD := H.out.1
  have hG := H.out.2.1
  have hf := H.out.2.2.1
  have hsm : ∀ u, ((G u).map ptrOf).isSome = (S.file u).isSome := fun u => by
    cases hGu : G u with
    | none => rw [hD.absent u hGu]; rfl
    | some q =>
      obtain ⟨f1, e1, _⟩ := hD.file u q hGu
      rw [e1]; rfl
  refine ⟨rfl, .tuple #[], by simp [results, Tryd.results30], ⟨_, rfl⟩, _, hD.moved s t (fb, v) f hG hf M5 ?_ hk5, ?_, fun k h => Or.inl (newD_move hG k h)⟩
  · have h1 : (delM (fun t => (G t).map ptrOf) s t).isSome = ((S.del s).file t).isSome := by
      unfold delM DevS.del
      by_cases e : t = s
      · simp [e]
      · simp only [if_neg e]
        exact hsm t
    have h2 : (if ((G s).map ptrOf).isSome then S.count - 1 else S.count) = (S.del s).count := by
      rw [hsm s]
      rfl
    show _ = (if ((S.del s).file t).isSome then (S.del s).count else (S.del s).count + 1)
    rw [← h1, ← h2]
  · exact ⟨o5.os.trans HM.out.2.2.1, o5.tape.trans HM.out.2.2.2.1, o5.output.trans HM.out.2.2.2.2, Nat.le_trans HM.out.2.1 o5.size, fun k h1 h2 => hk5 k h1 (fun e => h2 (Or.inr (Or.inl e)))⟩
theorem three_boxes (w : World) (a b c : Obj) : Below w.heap.size w (((w.alloc a).alloc b).alloc c) ∧ (((w.alloc a).alloc b).alloc c).heap[w.heap.size]? = some a ∧ (((w.alloc a).alloc b).alloc c).heap[w.heap.size + 1]? = some b ∧ (((w.alloc a).alloc b).alloc c).heap[w.heap.size + 1 + 1]? = some c := by
  refine ⟨below_alloc (below_alloc (below_alloc (Below.refl _ _) _) _) _, ?_, ?_, ?_⟩
  · rw [heap_alloc_old _ _ (by simp; omega), heap_alloc_old _ _ (by simp)]
    exact heap_alloc_new w a
  · rw [heap_alloc_old _ _ (by simp)]
    have := heap_alloc_new (w.alloc a) b
    rwa [World.size_alloc] at this
  · have := heap_alloc_new ((w.alloc a).alloc b) c
    rwa [World.size_alloc, World.size_alloc] at this
set_option maxHeartbeats 2000000 in
set_option maxRecDepth 100000 in
theorem rename_calls (w : World) (base d mb : Nat) (G : ByteArray → Option (Nat × Value)) (S : DevS) (s t : ByteArray) (hD : DevG w base d mb G S) (hF : Fine S) (hs : s.size ≤ maxLen) :
    Calls Tryd.prog 14 #[.pointer (some ⟨d, 0, none⟩), .string s, .string t] w (Did w base d mb G (errV (renS S s t).1) (renS S s t).2) := by
  obtain ⟨W0, hW0⟩ : ∃ x, x = ((w.alloc (Obj.cells #[.pointer (some ⟨d, 0, none⟩)] 22 (0, 0))).alloc (Obj.cells #[.string s] 9 (0, 0))).alloc (Obj.cells #[.string t] 9 (0, 0)) := ⟨_, rfl⟩
  obtain ⟨b1, hdx, hsx, htx⟩ := three_boxes w (Obj.cells #[.pointer (some ⟨d, 0, none⟩)] 22 (0, 0)) (Obj.cells #[.string s] 9 (0, 0)) (Obj.cells #[.string t] 9 (0, 0))
  rw [← hW0] at b1 hdx hsx htx
  have C1 : W0.cell? ⟨w.heap.size, 0, none⟩ = some (.pointer (some ⟨d, 0, none⟩)) := (cell_of_row _ _ 0 _ _ _ hdx).trans rfl
  have C2 : W0.cell? ⟨w.heap.size + 1, 0, none⟩ = some (.string s) := (cell_of_row _ _ 0 _ _ _ hsx).trans rfl
  have C3 : W0.cell? ⟨w.heap.size + 1 + 1, 0, none⟩ = some (.string t) := (cell_of_row _ _ 0 _ _ _ htx).trans rfl
  have hD0 := hD.below b1
  have HW := Lib.hid hW0
  by_cases hn : nameOk t = true
  · have hts : t.size ≤ maxLen := by
      have : 1 ≤ t.size ∧ t.size ≤ 40 := of_decide_eq_true hn
      unfold maxLen
      omega
    have HN := Lib.hid hn
    have key : Calls Tryd.prog 23 #[.pointer (some ⟨d, 0, none⟩), .string s, .func (.func 30) #[] #[.pointer (some ⟨w.heap.size, 0, none⟩), .pointer (some ⟨w.heap.size + 1, 0, none⟩), .pointer (some ⟨w.heap.size + 1 + 1, 0, none⟩)]] W0 (Did w base d mb G (errV (renS S s t).1) (renS S s t).2) := by
      cases hG : G s with
      | none =>
        have hf := hD.absent s hG
        refine (on_none W0 base d mb G S s _ _ hD0 hG hs).mono ?_
        rintro e w' ⟨rfl, hb⟩
        unfold renS
        rw [hn, hf]
        exact Did.still _ hD (b1.trans (hb.mono b1.size))
      | some p =>
        obtain ⟨fb, v⟩ := p
        obtain ⟨f, hf, _⟩ := hD.file s _ hG
        have e1 : renS S s t = if S.left = 0 then (30, S) else (0, (S.step.del s).put t f) := by unfold renS; rw [hn, hf]; rfl
        refine (on_some W0 base d mb G S s (fb, v) 30 Tryd.f30 Tryd.func30 rfl rfl #[.pointer (some ⟨w.heap.size, 0, none⟩), .pointer (some ⟨w.heap.size + 1, 0, none⟩), .pointer (some ⟨w.heap.size + 1 + 1, 0, none⟩)] hD0 hF hG hs (fun w' => Did W0 base d mb G (errV 0) ((S.step.del s).put t f) (.returned (errV 0)) w') (fun w1 h1 ho => ?_)).mono ?_
        · have hno : ∀ k, w.heap.size ≤ k → ¬ OwnD d mb G k := fun k hk h => by have := hD.own_lt k h; omega
          refine (rename1_calls w1 base d mb w.heap.size (w.heap.size + 1) (w.heap.size + 1 + 1) fb v G S.step s t f h1 hG hf (Nat.le_trans hF.count (by decide)) hs hts ((ho.block _ (blkLt hdx) (hno _ (Nat.le_refl _))).trans hdx) ((ho.block _ (blkLt hsx) (hno _ (by omega))).trans hsx) ((ho.block _ (blkLt htx) (hno _ (by omega))).trans htx)).mono ?_
          rintro e w' ⟨he, h⟩
          exact ⟨he, Did.of _ ho h⟩
        · rintro e w' ⟨k, rfl, ⟨h0, rfl, hb⟩ | ⟨h0, rfl, hq⟩⟩
          · rw [e1, if_pos h0]
            exact Did.still _ hD (b1.trans (hb.mono b1.size))
          · rw [e1, if_neg h0]
            exact hq.after hD b1
    have HK := Lib.hid key
    clear key hD hF hW0 b1 hdx hsx htx hD0 hn
    go_enter Tryd.func14, Tryd.ntmps14
    go_upto_region 1 with (fail)
    rw [← HW.out]
    go_wp2_with (first
      | (go_at_call 20; (with_reducible refine (named_is t _ HN.out _).mono ?_); rintro e w1 ⟨rfl, hw1⟩; rw [hw1]; clear hw1)
      | (go_at_call 23; refine HK.out.mono ?_; rintro e w4 ⟨rfl, h4⟩; have H4 := Lib.hid h4; clear h4))
    go_ret
    exact ⟨rfl, H4.out⟩
  · have hn' : nameOk t = false := by simpa using hn
    have HN := Lib.hid hn'
    have HE := Lib.hid (Did.still (errE 8) hD b1)
    have e1 : renS S s t = (8, S) := by unfold renS; rw [if_pos hn']
    have HE1 := Lib.hid e1
    clear hD hF hW0 b1 hdx hsx htx hD0 hn hn' e1
    go_enter Tryd.func14, Tryd.ntmps14
    go_upto_region 1 with (fail)
    rw [← HW.out]
    go_wp2_with (go_at_call 20; (with_reducible refine (named_is t _ HN.out _).mono ?_); rintro e w1 ⟨rfl, hw1⟩; rw [hw1]; clear hw1)
    go_ret
    rw [HE1.out]
    exact HE.out
end Go.Proofs.YtnmbkaccoaeijaaDoor

/- The document's device, plainly: its files as a list by names; what each call answers; it is the device of the code. No walk. -/
namespace Go.Proofs.YtnmbkaccoaeijaaDoor
open Go.RowKit
structure RFile where
  name : ByteArray
  bytes : List Int
  syn : Int
deriving DecidableEq
structure RDev where
  files : List RFile
  ops : Int
  left : Int
deriving DecidableEq
def bLt (a b : ByteArray) : Prop := a.data.toList < b.data.toList
instance (a b : ByteArray) : Decidable (bLt a b) := by unfold bLt; exact inferInstance
theorem bLt_irr (a : ByteArray) : ¬ bLt a a := by unfold bLt; exact List.lt_irrefl _
theorem bLt_trans {a b c : ByteArray} (h : bLt a b) (k : bLt b c) : bLt a c := List.lt_trans h k
theorem bLt_tot {a b : ByteArray} (h : ¬ bLt a b) (hn : a ≠ b) : bLt b a := by
  unfold bLt at *
  have h1 : b.data.toList ≤ a.data.toList := List.not_lt.1 h
  rcases List.le_iff_lt_or_eq.1 h1 with h2 | h2
  · exact h2
  · exfalso
    apply hn
    cases a
    cases b
    congr 1
    exact Array.toList_inj.1 h2.symm
def rfind (l : List RFile) (s : ByteArray) : Option RFile := l.find? (fun f => decide (f.name = s))
def rwithout (l : List RFile) (s : ByteArray) : List RFile := l.filter (fun f => decide (f.name ≠ s))
def rput : List RFile → RFile → List RFile
  | [], f => [f]
  | x :: t, f => if bLt f.name x.name then f :: x :: t else x :: rput t f
def RSorted (l : List RFile) : Prop := l.Pairwise (fun a b => bLt a.name b.name)
theorem rput_mem {l : List RFile} {f x : RFile} : x ∈ rput l f ↔ x = f ∨ x ∈ l := by
  induction l with
  | nil => simp [rput]
  | cons a t ih =>
    unfold rput
    split
    · simp
    · simp only [List.mem_cons, ih]
      constructor
      · rintro (h | h | h)
        · exact Or.inr (Or.inl h)
        · exact Or.inl h
        · exact Or.inr (Or.inr h)
      · rintro (h | h | h)
        · exact Or.inr (Or.inl h)
        · exact Or.inl h
        · exact Or.inr (Or.inr h)
theorem rput_len (l : List RFile) (f : RFile) : (rput l f).length = l.length + 1 := by
  induction l with
  | nil => rfl
  | cons a t ih =>
    unfold rput
    split
    · rfl
    · simp [ih]
theorem rput_sorted {l : List RFile} {f : RFile} (h : RSorted l) (hn : ∀ x ∈ l, x.name ≠ f.name) : RSorted (rput l f) := by
  induction l with
  | nil => exact List.pairwise_singleton _ _
  | cons a t ih =>
    obtain ⟨h1, h2⟩ := List.pairwise_cons.1 h
    unfold rput
    split
    next hlt =>
      refine List.pairwise_cons.2 ⟨fun x hx => ?_, h⟩
      rcases List.mem_cons.1 hx with rfl | hx
      · exact hlt
      · exact bLt_trans hlt (h1 x hx)
    next hlt =>
      refine List.pairwise_cons.2 ⟨fun x hx => ?_, ih h2 (fun x hx => hn x (List.mem_cons_of_mem _ hx))⟩
      rcases rput_mem.1 hx with rfl | hx
      · exact bLt_tot hlt (Ne.symm (hn a List.mem_cons_self))
      · exact h1 x hx
theorem rwithout_sorted {l : List RFile} (h : RSorted l) (s : ByteArray) : RSorted (rwithout l s) := List.Pairwise.filter _ h
theorem rwithout_ne {l : List RFile} {s : ByteArray} : ∀ x ∈ rwithout l s, x.name ≠ s := fun x hx => by
  have := (List.mem_filter.1 hx).2
  simpa using this
theorem rfind_some {l : List RFile} {s : ByteArray} {f : RFile} (h : rfind l s = some f) : f ∈ l ∧ f.name = s := ⟨List.mem_of_find?_eq_some h, by have := List.find?_some h; simpa using this⟩
theorem rfind_none {l : List RFile} {s : ByteArray} (h : rfind l s = none) : ∀ x ∈ l, x.name ≠ s := fun x hx => by
  have := List.find?_eq_none.1 h x hx
  simpa using this
theorem rfind_of {l : List RFile} (h : RSorted l) {f : RFile} (hf : f ∈ l) : rfind l f.name = some f := by
  induction l with
  | nil => cases hf
  | cons a t ih =>
    obtain ⟨h1, h2⟩ := List.pairwise_cons.1 h
    unfold rfind
    rcases List.mem_cons.1 hf with e | e
    · subst e
      rw [List.find?_cons_of_pos (by simp)]
    · rw [List.find?_cons_of_neg (by
        have := h1 f e
        intro e2
        have e3 : a.name = f.name := by simpa using e2
        rw [e3] at this
        exact bLt_irr _ this)]
      exact ih h2 e
theorem rfind_put {l : List RFile} {f : RFile} (h : RSorted l) (hn : ∀ x ∈ l, x.name ≠ f.name) (s : ByteArray) : rfind (rput l f) s = if s = f.name then some f else rfind l s := by
  have hs := rput_sorted h hn
  by_cases e : s = f.name
  · rw [if_pos e, e]
    exact rfind_of hs (rput_mem.2 (Or.inl rfl))
  · rw [if_neg e]
    cases hr : rfind l s with
    | none =>
      refine List.find?_eq_none.2 (fun x hx => ?_)
      rcases rput_mem.1 hx with rfl | hx
      · simpa using Ne.symm e
      · simpa using rfind_none hr x hx
    | some g =>
      obtain ⟨h1, h2⟩ := rfind_some hr
      exact h2 ▸ rfind_of hs (rput_mem.2 (Or.inr h1))
theorem rfind_without {l : List RFile} (h : RSorted l) (n s : ByteArray) : rfind (rwithout l n) s = if s = n then none else rfind l s := by
  have hs := rwithout_sorted h n
  by_cases e : s = n
  · rw [if_pos e]
    refine List.find?_eq_none.2 (fun x hx => ?_)
    rw [e]
    simpa using rwithout_ne x hx
  · rw [if_neg e]
    cases hr : rfind l s with
    | none => exact List.find?_eq_none.2 (fun x hx => by simpa using rfind_none hr x (List.mem_filter.1 hx).1)
    | some g =>
      obtain ⟨h1, h2⟩ := rfind_some hr
      exact h2 ▸ rfind_of hs (List.mem_filter.2 ⟨h1, by simpa [h2] using e⟩)
theorem rwithout_len {l : List RFile} (h : RSorted l) (n : ByteArray) : (rwithout l n).length = if (rfind l n).isSome then l.length - 1 else l.length := by
  induction l with
  | nil => rfl
  | cons a t ih =>
    obtain ⟨h1, h2⟩ := List.pairwise_cons.1 h
    have ih := ih h2
    by_cases e : a.name = n
    · have hno : ∀ x ∈ t, x.name ≠ n := fun x hx e2 => by
        have := h1 x hx
        rw [e, e2] at this
        exact bLt_irr _ this
      have e1 : rwithout t n = t := List.filter_eq_self.2 (fun x hx => by simpa using hno x hx)
      have e2 : rwithout (a :: t) n = rwithout t n := by unfold rwithout; rw [List.filter_cons_of_neg (by simpa using e)]
      have e3 : rfind (a :: t) n = some a := by unfold rfind; rw [List.find?_cons_of_pos (by simpa using e)]
      rw [e2, e1, e3]
      rfl
    · have e2 : rwithout (a :: t) n = a :: rwithout t n := by unfold rwithout; rw [List.filter_cons_of_pos (by simpa using e)]
      have e3 : rfind (a :: t) n = rfind t n := by unfold rfind; rw [List.find?_cons_of_neg (by simpa using e)]
      rw [e2, e3]
      simp only [List.length_cons, ih]
      split
      next hs =>
        obtain ⟨g, hg⟩ := Option.isSome_iff_exists.1 hs
        have := List.length_pos_of_mem (rfind_some hg).1
        omega
      next => rfl
def toF (f : RFile) : FileS := ⟨f.bytes, f.syn⟩
structure Rep (S : DevS) (R : RDev) : Prop where
  sorted : RSorted R.files
  file : ∀ s, S.file s = (rfind R.files s).map toF
  count : S.count = R.files.length
  ops : S.ops = R.ops
  left : S.left = R.left
def RDev.new : RDev := ⟨[], 0, -1⟩
theorem Rep.new : Rep DevS.new RDev.new := ⟨List.Pairwise.nil, fun s => rfl, rfl, rfl, rfl⟩
def RDev.step (R : RDev) : RDev := { R with ops := R.ops + 1, left := lessL R.left }
theorem Rep.step {S : DevS} {R : RDev} (h : Rep S R) : Rep S.step R.step := ⟨h.sorted, h.file, h.count, by show S.ops + 1 = R.ops + 1; rw [h.ops], by show lessL S.left = lessL R.left; rw [h.left]⟩
def RDev.set (R : RDev) (f : RFile) : RDev := { R with files := rput (rwithout R.files f.name) f }
theorem Rep.set {S : DevS} {R : RDev} (h : Rep S R) (f : RFile) : Rep (S.put f.name (toF f)) (R.set f) := by
  have h1 := rwithout_sorted h.sorted f.name
  refine ⟨rput_sorted h1 rwithout_ne, fun s => ?_, ?_, h.ops, h.left⟩
  · show (if s = f.name then some (toF f) else S.file s) = (rfind (rput (rwithout R.files f.name) f) s).map toF
    rw [rfind_put h1 rwithout_ne, rfind_without h.sorted]
    by_cases e : s = f.name
    · rw [if_pos e, if_pos e]; rfl
    · rw [if_neg e, if_neg e, if_neg e]
      exact h.file s
  · show (if (S.file f.name).isSome then S.count else S.count + 1) = (rput (rwithout R.files f.name) f).length
    rw [rput_len, rwithout_len h.sorted, h.file, h.count]
    cases hr : rfind R.files f.name with
    | none => rfl
    | some g =>
      have := List.length_pos_of_mem (rfind_some hr).1
      simp
      omega
def RDev.del (R : RDev) (s : ByteArray) : RDev := { R with files := rwithout R.files s }
theorem Rep.del {S : DevS} {R : RDev} (h : Rep S R) (s : ByteArray) : Rep (S.del s) (R.del s) := by
  refine ⟨rwithout_sorted h.sorted s, fun t => ?_, ?_, h.ops, h.left⟩
  · show (if t = s then none else S.file t) = (rfind (rwithout R.files s) t).map toF
    rw [rfind_without h.sorted]
    by_cases e : t = s
    · rw [if_pos e, if_pos e]; rfl
    · rw [if_neg e, if_neg e]
      exact h.file t
  · show (if (S.file s).isSome then S.count - 1 else S.count) = (rwithout R.files s).length
    rw [rwithout_len h.sorted, h.file, h.count]
    cases rfind R.files s <;> rfl
def gotR (R : RDev) (s : ByteArray) : RFile := (rfind R.files s).getD ⟨s, [], 0⟩
theorem gotR_name (R : RDev) (s : ByteArray) : (gotR R s).name = s := by
  unfold gotR
  cases hr : rfind R.files s with
  | none => rfl
  | some f => exact (rfind_some hr).2
theorem Rep.got {S : DevS} {R : RDev} (h : Rep S R) (s : ByteArray) : S.got s = toF (gotR R s) := by
  unfold DevS.got gotR
  rw [h.file]
  cases rfind R.files s <;> rfl
def appR (R : RDev) (s : ByteArray) (b : List Int) : Int × RDev :=
  if nameOk s = false then (8, R)
  else if ((rfind R.files s).isNone && decide (64 ≤ R.files.length)) || decide (262144 < (gotR R s).bytes.length + b.length) then (19, R)
  else if R.left = 0 then (30, R)
  else (0, R.step.set { gotR R s with bytes := (gotR R s).bytes ++ b })
theorem Rep.app {S : DevS} {R : RDev} (h : Rep S R) (s : ByteArray) (b : List Int) : (appS S s b).1 = (appR R s b).1 ∧ Rep (appS S s b).2 (appR R s b).2 := by
  unfold appS appR
  by_cases h1 : nameOk s = false
  · rw [if_pos h1, if_pos h1]; exact ⟨rfl, h⟩
  · rw [if_neg h1, if_neg h1]
    have e : S.isFull s b.length ↔ (((rfind R.files s).isNone && decide (64 ≤ R.files.length)) || decide (262144 < (gotR R s).bytes.length + b.length)) = true := by
      unfold DevS.isFull
      rw [h.got s, h.file, h.count]
      simp only [Bool.or_eq_true, Bool.and_eq_true, decide_eq_true_eq, Option.map_eq_none_iff, Option.isNone_iff_eq_none]
      exact Iff.rfl
    by_cases h2 : S.isFull s b.length
    · rw [if_pos h2, if_pos (e.1 h2)]; exact ⟨rfl, h⟩
    · rw [if_neg h2, if_neg (fun x => h2 (e.2 x)), h.left]
      by_cases h3 : R.left = 0
      · rw [if_pos h3, if_pos h3]; exact ⟨rfl, h⟩
      · rw [if_neg h3, if_neg h3]
        refine ⟨rfl, ?_⟩
        have := h.step.set { gotR R s with bytes := (gotR R s).bytes ++ b }
        rw [h.got s]
        rw [show ({ gotR R s with bytes := (gotR R s).bytes ++ b } : RFile).name = s from gotR_name R s] at this
        exact this
def synR (R : RDev) (s : ByteArray) : Int × RDev :=
  match rfind R.files s with
  | none => (10, R)
  | some f => if R.left = 0 then (30, R) else (0, R.step.set { f with syn := f.bytes.length })
theorem Rep.syn {S : DevS} {R : RDev} (h : Rep S R) (s : ByteArray) : (synS S s).1 = (synR R s).1 ∧ Rep (synS S s).2 (synR R s).2 := by
  unfold synS synR
  rw [h.file]
  cases hr : rfind R.files s with
  | none => exact ⟨rfl, h⟩
  | some f =>
    simp only [Option.map_some]
    rw [h.left]
    by_cases h3 : R.left = 0
    · rw [if_pos h3, if_pos h3]; exact ⟨rfl, h⟩
    · rw [if_neg h3, if_neg h3]
      refine ⟨rfl, ?_⟩
      have hn := (rfind_some hr).2
      subst hn
      exact h.step.set { f with syn := f.bytes.length }
def trnR (R : RDev) (s : ByteArray) (n : Int) : Int × RDev :=
  match rfind R.files s with
  | none => (10, R)
  | some f => if n < 0 ∨ (f.bytes.length : Int) < n then (1, R) else if R.left = 0 then (30, R) else (0, R.step.set { f with bytes := f.bytes.take n.toNat, syn := min f.syn n })
theorem Rep.trn {S : DevS} {R : RDev} (h : Rep S R) (s : ByteArray) (n : Int) : (trnS S s n).1 = (trnR R s n).1 ∧ Rep (trnS S s n).2 (trnR R s n).2 := by
  unfold trnS trnR
  rw [h.file]
  cases hr : rfind R.files s with
  | none => exact ⟨rfl, h⟩
  | some f =>
    simp only [Option.map_some]
    by_cases h2 : n < 0 ∨ ((toF f).bytes.length : Int) < n
    · rw [if_pos h2, if_pos (show n < 0 ∨ (f.bytes.length : Int) < n from h2)]; exact ⟨rfl, h⟩
    · rw [if_neg h2, if_neg (show ¬ (n < 0 ∨ (f.bytes.length : Int) < n) from h2), h.left]
      by_cases h3 : R.left = 0
      · rw [if_pos h3, if_pos h3]; exact ⟨rfl, h⟩
      · rw [if_neg h3, if_neg h3]
        refine ⟨rfl, ?_⟩
        have hn := (rfind_some hr).2
        subst hn
        exact h.step.set { f with bytes := f.bytes.take n.toNat, syn := min f.syn n }
def remR (R : RDev) (s : ByteArray) : Int × RDev :=
  match rfind R.files s with
  | none => (10, R)
  | some f => if R.left = 0 then (30, R) else (0, R.step.del s)
theorem Rep.rem {S : DevS} {R : RDev} (h : Rep S R) (s : ByteArray) : (remS S s).1 = (remR R s).1 ∧ Rep (remS S s).2 (remR R s).2 := by
  unfold remS remR
  rw [h.file]
  cases hr : rfind R.files s with
  | none => exact ⟨rfl, h⟩
  | some f =>
    simp only [Option.map_some]
    rw [h.left]
    by_cases h3 : R.left = 0
    · rw [if_pos h3, if_pos h3]; exact ⟨rfl, h⟩
    · rw [if_neg h3, if_neg h3]
      exact ⟨rfl, h.step.del s⟩
def renR (R : RDev) (s t : ByteArray) : Int × RDev :=
  if nameOk t = false then (8, R) else
  match rfind R.files s with
  | none => (10, R)
  | some f => if R.left = 0 then (30, R) else (0, (R.step.del s).set { f with name := t })
theorem Rep.ren {S : DevS} {R : RDev} (h : Rep S R) (s t : ByteArray) : (renS S s t).1 = (renR R s t).1 ∧ Rep (renS S s t).2 (renR R s t).2 := by
  unfold renS renR
  by_cases h1 : nameOk t = false
  · rw [if_pos h1, if_pos h1]; exact ⟨rfl, h⟩
  · rw [if_neg h1, if_neg h1, h.file]
    cases hr : rfind R.files s with
    | none => exact ⟨rfl, h⟩
    | some f =>
      simp only [Option.map_some]
      rw [h.left]
      by_cases h3 : R.left = 0
      · rw [if_pos h3, if_pos h3]; exact ⟨rfl, h⟩
      · rw [if_neg h3, if_neg h3]
        exact ⟨rfl, (h.step.del s).set { f with name := t }⟩
def cutR (R : RDev) (n : Int) : RDev := if R.left = 0 then R else { R with left := max n (-1) }
theorem Rep.cut {S : DevS} {R : RDev} (h : Rep S R) (n : Int) : Rep (cutS S n) (cutR R n) := by
  unfold cutS cutR
  rw [h.left]
  split
  · exact h
  · exact ⟨h.sorted, h.file, h.count, h.ops, rfl⟩
def restRF (keep : Int) (f : RFile) : RFile := { f with bytes := f.bytes.take (restN keep (toF f)).toNat, syn := restN keep (toF f) }
def restR (R : RDev) (keep : Int) : RDev := { R with files := R.files.map (restRF keep), left := -1 }
theorem rfind_map (l : List RFile) (g : RFile → RFile) (hg : ∀ f, (g f).name = f.name) (s : ByteArray) : rfind (l.map g) s = (rfind l s).map g := by
  unfold rfind
  rw [List.find?_map]
  congr 1
  congr 1
  funext f
  simp [hg]
theorem Rep.rest {S : DevS} {R : RDev} (h : Rep S R) (keep : Int) : Rep (restS S keep) (restR R keep) := by
  refine ⟨?_, fun s => ?_, ?_, h.ops, rfl⟩
  · show (R.files.map (restRF keep)).Pairwise _
    rw [List.pairwise_map]
    exact h.sorted
  · show Option.map (restF keep) (S.file s) = (rfind (R.files.map (restRF keep)) s).map toF
    rw [rfind_map R.files (restRF keep) (fun f => rfl), h.file]
    cases rfind R.files s <;> rfl
  · show S.count = (R.files.map (restRF keep)).length
    rw [List.length_map, h.count]
theorem sorted_unique : ∀ {l l' : List ByteArray}, l.Pairwise bLt → l'.Pairwise bLt → (∀ s, s ∈ l ↔ s ∈ l') → l = l'
  | [], [], _, _, _ => rfl
  | [], b :: t, _, _, h => by have := (h b).2 List.mem_cons_self; cases this
  | a :: t, [], _, _, h => by have := (h a).1 List.mem_cons_self; cases this
  | a :: t, b :: u, h1, h2, h => by
    obtain ⟨h3, h4⟩ := List.pairwise_cons.1 h1
    obtain ⟨h5, h6⟩ := List.pairwise_cons.1 h2
    have hab : a = b := by
      rcases List.mem_cons.1 ((h a).1 List.mem_cons_self) with e | e
      · exact e
      · rcases List.mem_cons.1 ((h b).2 List.mem_cons_self) with e2 | e2
        · exact e2.symm
        · exact absurd (bLt_trans (h5 a e) (h3 b e2)) (bLt_irr b)
    subst hab
    congr 1
    refine sorted_unique h4 h6 (fun s => ⟨fun hs => ?_, fun hs => ?_⟩)
    · rcases List.mem_cons.1 ((h s).1 (List.mem_cons_of_mem _ hs)) with e | e
      · subst e; exact absurd (h3 s hs) (bLt_irr s)
      · exact e
    · rcases List.mem_cons.1 ((h s).2 (List.mem_cons_of_mem _ hs)) with e | e
      · subst e; exact absurd (h5 s hs) (bLt_irr s)
      · exact e
def namesR (R : RDev) : List ByteArray := R.files.map (·.name)
theorem Rep.names_of {S : DevS} {R : RDev} (h : Rep S R) {l : List ByteArray} (h1 : l.Pairwise (fun a b => a.data.toList < b.data.toList)) (h2 : ∀ s, s ∈ l ↔ (S.file s).isSome = true) : l = namesR R := by
  refine sorted_unique h1 (by unfold namesR; rw [List.pairwise_map]; exact h.sorted) (fun s => ?_)
  rw [h2, h.file]
  unfold namesR
  rw [List.mem_map]
  constructor
  · intro hs
    cases hr : rfind R.files s with
    | none => rw [hr] at hs; cases hs
    | some f => exact ⟨f, rfind_some hr⟩
  · rintro ⟨f, hf, rfl⟩
    rw [rfind_of h.sorted hf]
    rfl
end Go.Proofs.YtnmbkaccoaeijaaDoor

/- The errors that the program makes: errors.Is and errors.As walked for api.Errno and nil; an error's number. No conditions. -/
namespace Go.Proofs.YtnmbkaccoaeijaaDoor
open Go.RowKit Go.Extern.Stop Go.Stop Go.Extern
theorem eqEE (n t : Int) (w : World) : (binOp .eql 26 (.iface 45 (.int .i64 n)) (.iface 45 (.int .i64 t))).run Tryd.prog w = .ok (.bool (n == t)) w := by kernel_rfl
theorem eqNN (w : World) : (binOp .eql 26 .nilIface .nilIface).run Tryd.prog w = .ok (.bool true) w := by kernel_rfl
theorem eqIN (t : Nat) (v : Value) (w : World) : (binOp .eql 26 (.iface t v) .nilIface).run Tryd.prog w = .ok (.bool false) w := by kernel_rfl
theorem neNN (w : World) : (binOp .neq 26 .nilIface .nilIface).run Tryd.prog w = .ok (.bool false) w := by kernel_rfl
theorem neIN (t : Nat) (v : Value) (w : World) : (binOp .neq 26 (.iface t v) .nilIface).run Tryd.prog w = .ok (.bool true) w := by kernel_rfl
theorem tOE (n : Int) (w : World) : (Extern.ReflectliteType.typeOf #[.iface 45 (.int .i64 n)]).run Tryd.prog w = .ok (.iface 98 (.agg #[.pointer (some ⟨1, 45, none⟩)])) w := by kernel_rfl
theorem cOE (w : World) : ((Extern.ReflectliteType.method fun t => do Rtype.noPackHeld "Comparable" t; (fun a => Value.bool a.comparable) <$> typeInfo t) #[.agg #[.pointer (some ⟨1, 45, none⟩)]]).run Tryd.prog w = .ok (.bool true) w := by kernel_rfl
theorem mOE (v : Value) (w : World) : (Go.method 250 98 v "Comparable").run Tryd.prog w = .ok (95, v) w := by kernel_rfl
theorem noIsE (v : Value) (xT : TypeId) (w : World) : (Instr.typeAssert (.iface 45 v) xT 116 true).run Tryd.prog w = .ok (.tuple #[.nilIface, .bool false]) w := run_typeAssert_lacksB Tryd.underlying116 (by kernel_rfl) (by kernel_rfl) v xT w
theorem noUnwrapE (v : Value) (xT : TypeId) (w : World) : (Instr.typeAssert (.iface 45 v) xT 105 true).run Tryd.prog w = .ok (.tuple #[.nilIface, .bool false]) w := run_typeAssert_lacksB Tryd.underlying105 (by kernel_rfl) (by kernel_rfl) v xT w
theorem noUnwrapsE (v : Value) (xT : TypeId) (w : World) : (Instr.typeAssert (.iface 45 v) xT 107 true).run Tryd.prog w = .ok (.tuple #[.nilIface, .bool false]) w := run_typeAssert_lacksB Tryd.underlying107 (by kernel_rfl) (by kernel_rfl) v xT w
set_option maxRecDepth 100000 in
set_option maxHeartbeats 800000 in
theorem is_no (n t : Int) (w : World) :
    Calls Tryd.prog 43 #[.iface 45 (.int .i64 n), .iface 45 (.int .i64 t)] w fun e w' => e = .returned (.bool (n == t)) ∧ w' = w := by
  have h8 := @run_callFunc_extern Tryd.prog 59 _ Extern.ReflectliteType.typeOf Tryd.func59 (by kernel_rfl) (by kernel_rfl) (by kernel_rfl) (by kernel_rfl)
  have h32 := @run_callFunc_extern Tryd.prog 95 _ (Extern.ReflectliteType.method fun t => do Rtype.noPackHeld "Comparable" t; pure (.bool (← typeInfo t).comparable)) Tryd.func95 (by kernel_rfl) (by kernel_rfl) (by kernel_rfl) (by kernel_rfl)
  have tT := tOE
  have cT := cOE
  have mR := mOE
  have nE := noIsE
  have uE := noUnwrapE
  have vE := noUnwrapsE
  have e1 := eqEE
  have e2 := eqIN
  by_cases h : n = t
  · subst h
    go_enter Tryd.func43, Tryd.ntmps43
    go_wp2
    refine wp_loop_rounds 1 ?_
    rw [rounds_succ]
    go_wp2
    go_ret
    exact ⟨by simp, rfl⟩
  · have hb : (n == t) = false := by simpa using h
    clear h
    go_enter Tryd.func43, Tryd.ntmps43
    go_wp2
    refine wp_loop_rounds 1 ?_
    rw [rounds_succ]
    go_wp2
    go_ret
    exact ⟨by simp [hb], rfl⟩
structure HasNo (v : Value) (m : Int) : Prop where
  form : ∃ t x, v = .iface t x
  lo : 1 ≤ m
  hi : m ≤ 36
  is : ∀ t w, Calls Tryd.prog 43 #[v, .iface 45 (.int .i64 t)] w fun e w' => e = .returned (.bool (m == t)) ∧ Below w.heap.size w w'
def EV (v : Value) (m : Int) : Prop := (v = .nilIface ∧ m = 0) ∨ HasNo v m
theorem hasNo_no (m : Int) (h1 : 1 ≤ m) (h2 : m ≤ 36) : HasNo (.iface 45 (.int .i64 m)) m := ⟨⟨_, _, rfl⟩, h1, h2, fun t w => (is_no m t w).mono fun e w' ⟨he, hw⟩ => ⟨he, by rw [hw]; exact Below.refl _ _⟩⟩
def foundTo (m : Int) (k : Int) : Int := if m < k then m else 0
set_option maxHeartbeats 800000 in
theorem num_no {v : Value} {m : Int} (h : HasNo v m) (w : World) : Calls Tryd.prog 38 #[v] w fun e w' => e = .returned (.int .i64 m) ∧ Below w.heap.size w w' := by
  have e2 := eqIN
  obtain ⟨⟨t, x, rfl⟩, lo, hi, hIs0⟩ := h
  have hIs := Lib.hid hIs0
  clear hIs0
  have hm0 : (m == 0) = false := by simp; omega
  go_enter Tryd.func38, Tryd.ntmps38
  go_wp2
  go_loopw [3, 4] (fun f i wr => ∃ k : Nat, 1 ≤ k ∧ k ≤ 37 ∧ i = .int .i64 k ∧ f = .int .i64 (foundTo m k) ∧ Below w.heap.size w wr) (fun _ i _ => 37 - (intOf i).toNat)
  case atStart => exact ⟨1, by omega, by omega, rfl, by simp [foundTo]; omega, Below.refl _ _⟩
  case round =>
    obtain ⟨k, hk1, hk2, rfl, rfl, hB⟩ := hrel
    by_cases hlt : k ≤ 36
    · by_cases hmk : m = (k : Int)
      · have hf0 : foundTo m k = 0 := by simp [foundTo]; omega
        have hf1 : foundTo m ↑(k + 1) = ↑k := by simp [foundTo]; omega
        have F0 := Lib.hid hf0
        have F1 := Lib.hid hf1
        have hb : (m == (k : Int)) = true := by simpa using hmk
        have HB := Lib.hid hb
        clear hf0 hf1 hb hmk
        rw [F0.out]
        go_wp2_with (go_at_call 43; refine (hIs.out _ _).mono ?_; rintro e w1 ⟨rfl, hb1⟩; rw [HB.out])
        go_roundw
        case rel => exact ⟨k + 1, by omega, by omega, by go_num, by rw [F1.out], hB.trans (hb1.mono hB.size)⟩
        case measure => simp [intOf]; omega
      · have hf1 : foundTo m ↑(k + 1) = foundTo m k := by simp only [foundTo]; split <;> split <;> omega
        have F1 := Lib.hid hf1
        have hb : (m == (k : Int)) = false := by simpa using hmk
        have HB := Lib.hid hb
        clear hf1 hb hmk
        go_wp2_with (go_at_call 43; refine (hIs.out _ _).mono ?_; rintro e w1 ⟨rfl, hb1⟩; rw [HB.out])
        go_roundw
        case rel => exact ⟨k + 1, by omega, by omega, by go_num, by rw [F1.out], hB.trans (hb1.mono hB.size)⟩
        case measure => simp [intOf]; omega
    · have hk : k = 37 := by omega
      subst hk
      have hf1 : foundTo m ((37 : Nat) : Int) = m := by simp [foundTo]; omega
      rw [hf1]
      clear hf1
      go_wp2_with (go_at_call 43; refine (hIs.out _ _).mono ?_; rintro e w1 ⟨rfl, hb1⟩)
      go_ret
      exact ⟨rfl, hB.trans (hb1.mono hB.size)⟩
end Go.Proofs.YtnmbkaccoaeijaaDoor

/- A device as its users see it: calls with literal bytes; reads, works. -/
namespace Go.Proofs.YtnmbkaccoaeijaaDoor
open Go.RowKit Go.Proofs.YtnmbkaccoaeijaaDoorW.PrintWords Go.Proofs.YtnmbkaccoaeijaaDoorW.PrintLast
def DevAt (w0 w : World) (d : Nat) (S : DevS) : Prop := ∃ mb G, DevG w w0.heap.size d mb G S ∧ Below w0.heap.size w0 w
theorem DevAt.bel {w0 w : World} {d : Nat} {S : DevS} (h : DevAt w0 w d S) : Below w0.heap.size w0 w := by
  obtain ⟨_, _, _, h⟩ := h
  exact h
theorem DevAt.step {w0 w w' : World} {d : Nat} {S : DevS} (h : DevAt w0 w d S) (hb : Below w.heap.size w w') : DevAt w0 w' d S := by
  obtain ⟨mb, G, h1, h2⟩ := h
  exact ⟨mb, G, h1.below hb, h2.trans (hb.mono h2.size)⟩
theorem DevAt.did {w0 w w1 w' : World} {d mb : Nat} {G : ByteArray → Option (Nat × Value)} {S S' : DevS} {v : Value} {e : Ending} (h1 : DevG w w0.heap.size d mb G S) (h2 : Below w0.heap.size w0 w) (hd : Did w w0.heap.size d mb G v S' e w') : e = .returned v ∧ DevAt w0 w' d S' := by
  obtain ⟨he, G', r1, r2, _⟩ := hd
  exact ⟨he, mb, G', r1, h2.trans (r2.below h1.own_base h2.size)⟩
def litW (W : World) (bs : List Int) : World := W.alloc (Obj.cells (bs.map bc).toArray bT (0, 0))
def litV (W : World) (bs : List Int) : Value := .slice (some ⟨W.heap.size, 0, none⟩) bs.length bs.length
theorem lit_cell (W : World) (bs : List Int) (j : Nat) (u : Value) (h : (bs.map bc)[j]? = some u) : (litW W bs).cell? ((⟨W.heap.size, 0, none⟩ : Addr).add j) = some u := by
  rw [add_lit0, cell_of_row (litW W bs) _ j _ _ _ (heap_alloc_new W _)]
  simpa using h
theorem lit_read (W : World) (own : Nat → Prop) (hown : ∀ k, own k → k < W.heap.size) (bs : List Int) : ReadB (litW W bs) own (litV W bs) bs :=
  Or.inr ⟨⟨W.heap.size, 0, none⟩, bs.length, rfl, fun _ => ⟨fun e => Nat.lt_irrefl _ (hown _ e), by simp [litW]⟩, fun j u hu => lit_cell W bs j u hu⟩
theorem lit_row (W : World) (bs : List Int) : RowB (litW W bs) (litV W bs) bs := (lit_read W (fun _ => False) (fun _ h => h.elim) bs).row
theorem lit_bel (W : World) (bs : List Int) : Below W.heap.size W (litW W bs) := below_alloc (Below.refl _ _) _
theorem append_lit {w0 W : World} {d : Nat} {S : DevS} (s : ByteArray) (bs : List Int) (h : DevAt w0 W d S) (hF : Fine S) (hl : bs.length ≤ 1000000) :
    Calls Tryd.prog 6 #[.pointer (some ⟨d, 0, none⟩), .string s, litV W bs] (litW W bs) fun e w' => e = .returned (errV (appS S s bs).1) ∧ DevAt w0 w' d (appS S s bs).2 := by
  obtain ⟨mb, G, h1, h2⟩ := h
  have hb := lit_bel W bs
  refine (append_calls (litW W bs) w0.heap.size d mb G S s (litV W bs) bs (h1.below hb) hF (lit_read W _ (fun k hk => h1.own_lt k hk) bs) hl (Nat.le_trans h2.size hb.size)).mono ?_
  intro e w' hd
  exact DevAt.did (w := litW W bs) (w1 := W) (h1.below hb) (h2.trans (hb.mono h2.size)) hd
theorem append_at {w0 W : World} {d : Nat} {S : DevS} (s : ByteArray) (bv : Value) (bs : List Int) (h : DevAt w0 W d S) (hF : Fine S) (hl : bs.length ≤ 1000000) (hR : ∀ own : Nat → Prop, (∀ k, own k → w0.heap.size ≤ k) → ReadB W own bv bs) :
    Calls Tryd.prog 6 #[.pointer (some ⟨d, 0, none⟩), .string s, bv] W fun e w' => e = .returned (errV (appS S s bs).1) ∧ DevAt w0 w' d (appS S s bs).2 := by
  obtain ⟨mb, G, h1, h2⟩ := h
  refine (append_calls W w0.heap.size d mb G S s bv bs h1 hF (hR _ h1.own_base) hl h2.size).mono ?_
  intro e w' hd
  exact DevAt.did (w1 := W) h1 h2 hd
theorem sync_at {w0 W : World} {d : Nat} {S : DevS} (s : ByteArray) (h : DevAt w0 W d S) (hF : Fine S) (hs : s.size ≤ maxLen) :
    Calls Tryd.prog 7 #[.pointer (some ⟨d, 0, none⟩), .string s] W fun e w' => e = .returned (errV (synS S s).1) ∧ DevAt w0 w' d (synS S s).2 := by
  obtain ⟨mb, G, h1, h2⟩ := h
  refine (sync_calls W w0.heap.size d mb G S s h1 hF hs).mono ?_
  intro e w' hd
  exact DevAt.did (w1 := W) h1 h2 hd
theorem cut_at {w0 W : World} {d : Nat} {S : DevS} (n : Int) (h : DevAt w0 W d S) :
    Calls Tryd.prog 17 #[.pointer (some ⟨d, 0, none⟩), .int .i64 n] W fun e w' => e = .returned (.tuple #[]) ∧ DevAt w0 w' d (cutS S n) := by
  obtain ⟨mb, G, h1, h2⟩ := h
  refine (cut_calls W w0.heap.size d mb G S n h1).mono ?_
  intro e w' hd
  exact DevAt.did (w1 := W) h1 h2 hd
theorem ops_at {w0 W : World} {d : Nat} {S : DevS} (h : DevAt w0 W d S) :
    Calls Tryd.prog 19 #[.pointer (some ⟨d, 0, none⟩)] W fun e w' => e = .returned (.int .i64 S.ops) ∧ DevAt w0 w' d S := by
  obtain ⟨mb, G, h1, h2⟩ := h
  refine (ops_calls W w0.heap.size d mb G S h1).mono ?_
  rintro e w' ⟨rfl, rfl⟩
  exact ⟨rfl, mb, G, h1, h2⟩
theorem new_at {w0 W : World} (h : Below w0.heap.size w0 W) : Calls Tryd.prog 4 #[] W fun e w' => ∃ d, e = .returned (.pointer (some ⟨d, 0, none⟩)) ∧ DevAt w0 w' d DevS.new := by
  refine (new_calls W).mono ?_
  rintro e w' ⟨rfl, h1, h2⟩
  exact ⟨_, rfl, W.heap.size, _, { h1 with bd := Nat.le_succ_of_le h.size, bm := h.size, bf := fun s p hp => by simp at hp, file := fun s p hp => by simp at hp }, h.trans (h2.mono h.size)⟩
def readsS (S : DevS) (s : ByteArray) (bs : List Int) : Bool := (S.file s).isSome && decide ((S.got s).bytes = bs)
set_option maxHeartbeats 2000000 in
set_option maxRecDepth 100000 in
theorem reads_row {w0 W : World} {d : Nat} {S : DevS} (s : ByteArray) (v : Value) (bs : List Int) (h : DevAt w0 W d S) (hF : Fine S) (hs : s.size ≤ maxLen) (hl : bs.length ≤ 1000000) (hr : RowB W v bs) :
    Calls Tryd.prog 9 #[.pointer (some ⟨d, 0, none⟩), .string s, v] W fun e w' => e = .returned (.bool (readsS S s bs)) ∧ DevAt w0 w' d S := by
  have HD := Lib.hid h
  obtain ⟨mb, G, h1, h2⟩ := h
  have HR := Lib.hid (read_calls W w0.heap.size d mb G S s h1 hF hs)
  have HRow := Lib.hid hr
  have e1 := eqNN
  have e2 := eqIN
  obtain ⟨A, c, rfl, _⟩ := hr
  cases hf : S.file s with
  | none =>
    have r1 : errV (readNo S s) = .iface 45 (.int .i64 10) := by unfold readNo; rw [hf]; rfl
    have r2 : readsS S s bs = false := by unfold readsS; rw [hf]; rfl
    have HX := Lib.hid (And.intro r1 r2)
    clear h1 h2 hF r1 r2 hf
    go_enter Tryd.func9, Tryd.ntmps9
    go_wp2_with (go_at_call 15; (with_reducible refine HR.out.mono ?_); rintro e w1 ⟨v1, rfl, hB1, hb1⟩; have H1 := Lib.hid (And.intro hB1 hb1); clear hB1 hb1; rw [HX.out.1])
    go_ret
    exact ⟨by rw [HX.out.2]; rfl, HD.out.step H1.out.2⟩
  | some f =>
    have hfl := (hF.file s f hf).1
    have r1 : errV (readNo S s) = .nilIface := by unfold readNo; rw [hf]; rfl
    have r2 : readsS S s bs = decide ((S.got s).bytes = bs) := by unfold readsS; rw [hf]; rfl
    have r3 : (S.got s).bytes.length ≤ 1000000 := by unfold DevS.got; rw [hf]; exact Nat.le_trans hfl (by decide)
    have HX := Lib.hid (And.intro r1 (And.intro r2 r3))
    clear h1 h2 hF r1 r2 r3 hf hfl
    go_enter Tryd.func9, Tryd.ntmps9
    go_wp2_with (first
      | (go_at_call 15; (with_reducible refine HR.out.mono ?_); rintro e w1 ⟨v1, rfl, hB1, hb1⟩; have H1 := Lib.hid (And.intro hB1 hb1); clear hB1 hb1; rw [HX.out.1])
      | (go_at_call 25; (with_reducible refine (sameBytes_calls H1.out.1.row (HRow.out.below H1.out.2) HX.out.2.2 hl).mono ?_); rintro e w2 ⟨rfl, hb2⟩; have H2 := Lib.hid hb2; clear hb2))
    go_ret
    exact ⟨by rw [HX.out.2.1]; rfl, (HD.out.step H1.out.2).step H2.out⟩
end Go.Proofs.YtnmbkaccoaeijaaDoor
