/- Lemmas on which the law stands, part 2: Shelf, ErrL, AsL, WrongL, MadeL, CodeL, CheckL, ItoaL, Step, TxP, Num, TxIL, QTherex0, QTherex1, QTherex2. -/
import Derived.Shelf.Strings.Trim
import Derived.Shelf.Small.Utf8
import Derived.Shelf.Small.Strs
import Derived.Shelf.Small.Wraps
import Derived.Shelf.Strconv.Atoi
import Derived.Shelf.Strconv.Itoa0
import Derived.Shelf.Strconv.Itoa1
import Derived.Shelf.LaysM
import Derived.Shelf.Strconv.Itoa2
import Derived.Shelf.Strconv.Itoa3
import Derived.Shelf.Strconv.AtoiErrFast
import Derived.Shelf.Strconv.ParseIntEmpty
import Derived.Shelf.Strconv.AtoiFail
import Derived.Shelf.Strconv.Clone
import Derived.Shelf.Strconv.SyntaxError
import Derived.Shelf.LaysC
import Derived.Shelf.Strconv.ToError
import Derived.Shelf.Strconv.Lower
import Derived.Shelf.Strconv.ParseUint10
import Derived.Shelf.Strconv.ParseUint10Empty
import Derived.Shelf.Strconv.ParseUint10Any
import Derived.Shelf.Strconv.ParseInt10
import Derived.Shelf.Strconv.AtoiLong
import Derived.Shelf.Strconv.AtoiInnerAll
import Derived.Shelf.Strconv.RangeError
import Derived.Shelf.Strconv.ToErrorRange
import Derived.Shelf.Strconv.AtoiAll
import Derived.Shelf.Strconv.ErrVarAll
import Derived.Shelf.Strings.Search1
import Derived.Shelf.Strings.Search2
import Derived.Shelf.Strings.Cut
import Derived.Shelf.Strings.Shaped
import Derived.Shelf.Strings.Prefix
import Derived.Shelf.Unicode.Decode
import Derived.Shelf.Strings.Runes
import Derived.Shelf.Strings.AsciiSet
import Derived.Shelf.Unicode.DecodeSlow
import Derived.Shelf.Unicode.DecodeAny
import Derived.Shelf.Unicode.DecodeLast
import Derived.Test.YtcmnbcdimhcdkaaDoorProg
import Derived.WalkKit
import Derived.LaidEql
import Derived.Stop.Asserts
import Derived.RowKitTokens
import Derived.Lib.Hide
import Derived.Test.YtcmnbcdimhcdkaaDoorKThere1
import Derived.Lib.LaidTab
import Derived.Lib.AppendIntMem
import Derived.Lib.SmallJoins
import Derived.Lib.AtoiAll
import Derived.Lib.ItoaNum
import Derived.Lib.SlTrimSet
import Derived.Lib.IndexMore
import Derived.Lib.Strings
import Derived.Shelf.Strings.SlTrimAscii
import Derived.Lib.AtoiErrMem
import Derived.Below
import Derived.Deep.Draws
import Derived.Deep.AppendLies
import Derived.Maps.AppendAt
import Derived.OwnWalk
import Derived.Laws.BytesArg
import Derived.Laws.MakeOwn
import Derived.Laws.OwnMore
import Derived.Deep.OwnRows
import Derived.Tactics
import Derived.Lib.ConvBytes
import Derived.Laws.Slices
import Derived.KernelRfl
import Derived.RowKit3
import Derived.Deep.LoopGhost
import Derived.Deep.QuietTactic
import Derived.BigQuiet
import Derived.WideLaws
import Derived.Deep.DeepCutAuto
import Derived.Deep.CutBlock
import Derived.Deep.RegionHeld3
import Derived.Laws.Rows
import Derived.Lib.AppendStr
import Derived.ArgAppend
import Derived.Laws.IdiomCopy
import Derived.OrdersHeld
import Derived.Laws.BitsLemmas
import Derived.RowKit
namespace Go.Proofs.YtcmnbcdimhcdkaaDoorW.PrintMore
def mn (a b : Int) : Int := if b < a then b else a
def mx (a b : Int) : Int := if a < b then b else a
theorem max2_int (k k' : IntKind) (x y : Int) : Builtin.max2 (.int k x) (.int k' y) = pure (.int k (if x < y then y else x)) := by simp only [Builtin.max2, gt_iff_lt]
theorem min2_int (k k' : IntKind) (x y : Int) : Builtin.min2 (.int k x) (.int k' y) = pure (.int k (if y < x then y else x)) := by simp only [Builtin.min2]
theorem max_two (ats : Array TypeId) (ty : TypeId) (a b : Value) : Builtin.max_ ats ty #[a, b] = (Builtin.max2 a b >>= fun s => pure s) := by simp only [Builtin.max_, List.foldlM_cons, List.foldlM_nil]
theorem min_two (ats : Array TypeId) (ty : TypeId) (a b : Value) : Builtin.min_ ats ty #[a, b] = (Builtin.min2 a b >>= fun s => pure s) := by simp only [Builtin.min_, List.foldlM_cons, List.foldlM_nil]
theorem max_three (ats : Array TypeId) (ty : TypeId) (a b c : Value) : Builtin.max_ ats ty #[a, b, c] = (Builtin.max2 a b >>= fun s => Builtin.max2 s c >>= fun s => pure s) := by simp only [Builtin.max_, List.foldlM_cons, List.foldlM_nil]
theorem min_three (ats : Array TypeId) (ty : TypeId) (a b c : Value) : Builtin.min_ ats ty #[a, b, c] = (Builtin.min2 a b >>= fun s => Builtin.min2 s c >>= fun s => pure s) := by simp only [Builtin.min_, List.foldlM_cons, List.foldlM_nil]
theorem max_four (ats : Array TypeId) (ty : TypeId) (a b c d : Value) : Builtin.max_ ats ty #[a, b, c, d] = (Builtin.max2 a b >>= fun s => Builtin.max2 s c >>= fun s => Builtin.max2 s d >>= fun s => pure s) := by simp only [Builtin.max_, List.foldlM_cons, List.foldlM_nil]
theorem min_four (ats : Array TypeId) (ty : TypeId) (a b c d : Value) : Builtin.min_ ats ty #[a, b, c, d] = (Builtin.min2 a b >>= fun s => Builtin.min2 s c >>= fun s => Builtin.min2 s d >>= fun s => pure s) := by simp only [Builtin.min_, List.foldlM_cons, List.foldlM_nil]
end Go.Proofs.YtcmnbcdimhcdkaaDoorW.PrintMore
namespace Go.Proofs.YtcmnbcdimhcdkaaDoorW.PrintWords
open Go.RowKit
section
variable {P : Program} {ops : Array Oper} {rest : List Oper} {o : Oper} {a : Act} {Q : Exit → Act → World → Prop} {W : World}
/-- Is it this call? -/
theorem gate_callee {f : FuncId} {as_ : Array Operand} {ts : Array TypeId} (_ho : o.op = .call { callee := .value (.func f), args := as_, argTypes := ts }) (h : wpList P ops Q (o :: rest) a W) : wpList P ops Q (o :: rest) a W := h
/-- Is it this builtin? -/
theorem gate_builtin {b : Builtin} {xs : Array Operand} {ts : Array TypeId} (_ho : o.op = .call { callee := .builtin b, args := xs, argTypes := ts }) (h : wpList P ops Q (o :: rest) a W) : wpList P ops Q (o :: rest) a W := h
end
theorem calls_of_args {P : Program} {f : FuncId} {args args' : Array Value} {w : World} {Q : Ending → World → Prop} (h : args = args') (hc : Calls P f args' w Q) : Calls P f args w Q := h ▸ hc
end Go.Proofs.YtcmnbcdimhcdkaaDoorW.PrintWords
set_option linter.unusedVariables false
set_option linter.unusedSimpArgs false
/- Contracts of Go's library at this program: laid by the kit's own two commands (lay-shelf, lay-plain); shelf.py has kept those that are used. -/
namespace Go.Proofs
open Go.Shelf
def Tryd.lays160_ren : Go.Shelf.Ren := ⟨fun | 160 => 19 | 232 => 26 | 231 => 25 | 227 => 27 | 234 => 29 | 233 => 28 | 236 => 31 | 235 => 30 | 228 => 44 | 271 => 47 | 151 => 46 | 197 => 45 | 120 => 62 | 152 => 61 | 260 => 60 | 137 => 68 | 119 => 69 | 224 => 42 | 225 => 41 | 217 => 40 | 266 => 58 | n => n, fun | 9 => 9 | 4 => 4 | 3 => 3 | 5 => 5 | 117 => 58 | 116 => 57 | 0 => 0 | 124 => 61 | 21 => 21 | 105 => 78 | 46 => 76 | 119 => 114 | 139 => 117 | 138 => 116 | n => n, fun | 3 => 4 | 4 => 5 | n => n⟩
theorem Tryd.lays160 : Go.Proofs.Lays.n160 Tryd.prog Tryd.lays160_ren := {
  mixed := by kernel_rfl
  f119 := Tryd.func69.trans (congrArg some (by kernel_rfl))
  f120 := Tryd.func62.trans (congrArg some (by kernel_rfl))
  f137 := Tryd.func68.trans (congrArg some (by kernel_rfl))
  f151 := Tryd.func46.trans (congrArg some (by kernel_rfl))
  f152 := Tryd.func61.trans (congrArg some (by kernel_rfl))
  f160 := Tryd.func19.trans (congrArg some (by kernel_rfl))
  f197 := Tryd.func45.trans (congrArg some (by kernel_rfl))
  f217 := Tryd.func40.trans (congrArg some (by kernel_rfl))
  f224 := Tryd.func42.trans (congrArg some (by kernel_rfl))
  f225 := Tryd.func41.trans (congrArg some (by kernel_rfl))
  f227 := Tryd.func27.trans (congrArg some (by kernel_rfl))
  f228 := Tryd.func44.trans (congrArg some (by kernel_rfl))
  f231 := Tryd.func25.trans (congrArg some (by kernel_rfl))
  f232 := Tryd.func26.trans (congrArg some (by kernel_rfl))
  f233 := Tryd.func28.trans (congrArg some (by kernel_rfl))
  f234 := Tryd.func29.trans (congrArg some (by kernel_rfl))
  f235 := Tryd.func30.trans (congrArg some (by kernel_rfl))
  f236 := Tryd.func31.trans (congrArg some (by kernel_rfl))
  f260 := Tryd.func60.trans (congrArg some (by kernel_rfl))
  f266 := Tryd.func58.trans (congrArg some (by kernel_rfl))
  f271 := Tryd.func47.trans (congrArg some (by kernel_rfl))
  t0 := Tryd.underlying0
  a0 := Tryd.isAgg0
  z0 := Tryd.sizeOf0
  v0 := Tryd.zeroValue0
  t3 := Tryd.underlying3
  a3 := Tryd.isAgg3
  z3 := Tryd.sizeOf3
  v3 := Tryd.zeroValue3
  t4 := Tryd.underlying4
  a4 := Tryd.isAgg4
  z4 := Tryd.sizeOf4
  v4 := Tryd.zeroValue4
  t5 := Tryd.underlying5
  a5 := Tryd.isAgg5
  z5 := Tryd.sizeOf5
  v5 := Tryd.zeroValue5
  t9 := Tryd.underlying9
  a9 := Tryd.isAgg9
  z9 := Tryd.sizeOf9
  v9 := Tryd.zeroValue9
  t21 := Tryd.underlying21
  a21 := Tryd.isAgg21
  z21 := Tryd.sizeOf21
  v21 := Tryd.zeroValue21
  t46 := Tryd.underlying76
  a46 := Tryd.isAgg76
  z46 := Tryd.sizeOf76
  v46 := Tryd.zeroValue76
  t105 := Tryd.underlying78
  a105 := Tryd.isAgg78
  z105 := Tryd.sizeOf78
  v105 := Tryd.zeroValue78
  t116 := Tryd.underlying57
  a116 := Tryd.isAgg57
  z116 := Tryd.sizeOf57
  t117 := Tryd.underlying58
  a117 := Tryd.isAgg58
  z117 := Tryd.sizeOf58
  v117 := Tryd.zeroValue58
  t119 := Tryd.underlying114
  a119 := Tryd.isAgg114
  z119 := Tryd.sizeOf114
  t124 := Tryd.underlying61
  a124 := Tryd.isAgg61
  z124 := Tryd.sizeOf61
  v124 := Tryd.zeroValue61
  t138 := Tryd.underlying116
  a138 := Tryd.isAgg116
  z138 := Tryd.sizeOf116
  v138 := Tryd.zeroValue116
  t139 := Tryd.underlying117
  a139 := Tryd.isAgg117
  z139 := Tryd.sizeOf117
  v139 := Tryd.zeroValue117
  g3 := by kernel_rfl
  g4 := by kernel_rfl }
def Tryd.lays104_ren : Go.Shelf.Ren := ⟨fun | 104 => 13 | 211 => 18 | 207 => 24 | n => n, fun | 9 => 9 | 4 => 4 | 24 => 39 | 3 => 3 | n => n, fun | n => n⟩
theorem Tryd.lays104 : Go.Proofs.Lays.n104 Tryd.prog Tryd.lays104_ren := {
  mixed := by kernel_rfl
  f104 := Tryd.func13.trans (congrArg some (by kernel_rfl))
  f207 := Tryd.func24.trans (congrArg some (by kernel_rfl))
  f211 := Tryd.func18.trans (congrArg some (by kernel_rfl))
  t3 := Tryd.underlying3
  a3 := Tryd.isAgg3
  z3 := Tryd.sizeOf3
  v3 := Tryd.zeroValue3
  t4 := Tryd.underlying4
  a4 := Tryd.isAgg4
  z4 := Tryd.sizeOf4
  v4 := Tryd.zeroValue4
  t9 := Tryd.underlying9
  a9 := Tryd.isAgg9
  z9 := Tryd.sizeOf9
  v9 := Tryd.zeroValue9
  t24 := Tryd.underlying39
  a24 := Tryd.isAgg39
  z24 := Tryd.sizeOf39
  v24 := Tryd.zeroValue39 }
open Go.RowKit in
theorem Tryd.strings_CutSuffix (s p : ByteArray) (w : World) (hs : s.size ≤ 9223372036854775807) :
    Calls Tryd.prog 13 #[.string s, .string p] w fun e w' => e = .returned (.tuple #[.string ⟨(Lib.trimSuffix s.data.toList p.data.toList).toArray⟩, .bool (Lib.hasSuffix s.data.toList p.data.toList)]) ∧ w' = w := Any.strings_CutSuffix Tryd.lays104 s p w hs
def Tryd.laysM171_ren : Go.Shelf.Ren := ⟨fun | 171 => 11 | 243 => 16 | 246 => 22 | 283 => 36 | 284 => 37 | 285 => 38 | 286 => 39 | 129 => 54 | 317 => 53 | 318 => 55 | 319 => 56 | 320 => 57 | 337 => 66 | 338 => 67 | n => n, fun | 3 => 3 | 9 => 9 | 2 => 2 | 4 => 4 | 171 => 67 | 0 => 0 | 53 => 68 | 37 => 71 | 5 => 5 | 173 => 72 | 212 => 99 | 51 => 100 | 20 => 20 | 213 => 101 | 46 => 76 | 232 => 125 | 233 => 126 | n => n, fun | 17 => 1 | 18 => 6 | 19 => 7 | n => n⟩
theorem Tryd.laysM171 : Go.Proofs.LaysM.n171 Tryd.prog Tryd.laysM171_ren := {
  mixed := by kernel_rfl
  f129 := Tryd.func54.trans (congrArg some (by kernel_rfl))
  f171 := Tryd.func11.trans (congrArg some (by kernel_rfl))
  f243 := Tryd.func16.trans (congrArg some (by kernel_rfl))
  f246 := Tryd.func22.trans (congrArg some (by kernel_rfl))
  f283 := Tryd.func36.trans (congrArg some (by kernel_rfl))
  f284 := Tryd.func37.trans (congrArg some (by kernel_rfl))
  f285 := Tryd.func38.trans (congrArg some (by kernel_rfl))
  f286 := Tryd.func39.trans (congrArg some (by kernel_rfl))
  f317 := Tryd.func53.trans (congrArg some (by kernel_rfl))
  f318 := Tryd.func55.trans (congrArg some (by kernel_rfl))
  f319 := Tryd.func56.trans (congrArg some (by kernel_rfl))
  f320 := Tryd.func57.trans (congrArg some (by kernel_rfl))
  f337 := Tryd.func66.trans (congrArg some (by kernel_rfl))
  f338 := Tryd.func67.trans (congrArg some (by kernel_rfl))
  t0 := Tryd.underlying0
  a0 := Tryd.isAgg0
  z0 := Tryd.sizeOf0
  v0 := Tryd.zeroValue0
  t2 := Tryd.underlying2
  a2 := Tryd.isAgg2
  z2 := Tryd.sizeOf2
  v2 := Tryd.zeroValue2
  t3 := Tryd.underlying3
  a3 := Tryd.isAgg3
  z3 := Tryd.sizeOf3
  v3 := Tryd.zeroValue3
  t4 := Tryd.underlying4
  a4 := Tryd.isAgg4
  z4 := Tryd.sizeOf4
  v4 := Tryd.zeroValue4
  t5 := Tryd.underlying5
  a5 := Tryd.isAgg5
  z5 := Tryd.sizeOf5
  v5 := Tryd.zeroValue5
  t9 := Tryd.underlying9
  a9 := Tryd.isAgg9
  z9 := Tryd.sizeOf9
  v9 := Tryd.zeroValue9
  t20 := Tryd.underlying20
  a20 := Tryd.isAgg20
  z20 := Tryd.sizeOf20
  v20 := Tryd.zeroValue20
  t37 := Tryd.underlying71
  a37 := Tryd.isAgg71
  z37 := Tryd.sizeOf71
  v37 := Tryd.zeroValue71
  t46 := Tryd.underlying76
  a46 := Tryd.isAgg76
  z46 := Tryd.sizeOf76
  v46 := Tryd.zeroValue76
  t51 := Tryd.underlying100
  a51 := Tryd.isAgg100
  z51 := Tryd.sizeOf100
  v51 := Tryd.zeroValue100
  t53 := Tryd.underlying68
  a53 := Tryd.isAgg68
  z53 := Tryd.sizeOf68
  v53 := Tryd.zeroValue68
  t171 := Tryd.underlying67
  a171 := Tryd.isAgg67
  z171 := Tryd.sizeOf67
  v171 := Tryd.zeroValue67
  t173 := Tryd.underlying72
  a173 := Tryd.isAgg72
  z173 := Tryd.sizeOf72
  v173 := Tryd.zeroValue72
  t212 := Tryd.underlying99
  a212 := Tryd.isAgg99
  z212 := Tryd.sizeOf99
  v212 := Tryd.zeroValue99
  t213 := Tryd.underlying101
  a213 := Tryd.isAgg101
  z213 := Tryd.sizeOf101
  t232 := Tryd.underlying125
  a232 := Tryd.isAgg125
  z232 := Tryd.sizeOf125
  v232 := Tryd.zeroValue125
  t233 := Tryd.underlying126
  a233 := Tryd.isAgg126
  z233 := Tryd.sizeOf126
  v233 := Tryd.zeroValue126
  g17 := by kernel_rfl
  g18 := by kernel_rfl
  g19 := by kernel_rfl
  i0 := by kernel_rfl
  i2 := by kernel_rfl
  i3 := by kernel_rfl
  i4 := by kernel_rfl
  i5 := by kernel_rfl
  i9 := by kernel_rfl
  i20 := by kernel_rfl
  i37 := by kernel_rfl
  i46 := by kernel_rfl
  i51 := by kernel_rfl
  i53 := by kernel_rfl
  i171 := by kernel_rfl
  i173 := by kernel_rfl
  i212 := by kernel_rfl
  i232 := by kernel_rfl
  i233 := by kernel_rfl
  m17 := by kernel_rfl
  m18 := by kernel_rfl
  m19 := by kernel_rfl }
open Go.RowKit Go.Sort Go.Lib in
theorem Tryd.strconv_Itoa (n : Int) (h0 : -9223372036854775808 ≤ n) (h1 : n ≤ 9223372036854775807) (w : World) (htab : Lib.TabIs Tryd.prog w "internal/strconv.uint64pow10" .u64 Lib.pow10Tab) :
    Calls Tryd.prog 11 #[.int .i64 n] w fun e w' => e = .returned (.string ⟨(Lib.itoa n).toArray⟩) ∧ ∃ k os, w' = grow (w.drewN k) os := Any.strconv_Itoa Tryd.laysM171 n h0 h1 w htab
def Tryd.laysC172_ren : Go.Shelf.Ren := ⟨fun | 172 => 20 | 244 => 32 | 245 => 33 | 247 => 48 | 279 => 49 | 280 => 50 | 281 => 51 | 282 => 52 | 287 => 63 | 316 => 64 | 171 => 11 | 205 => 65 | 321 => 70 | 322 => 71 | 243 => 16 | 246 => 22 | 283 => 36 | 284 => 37 | 285 => 38 | 286 => 39 | 129 => 54 | 317 => 53 | 318 => 55 | 319 => 56 | 320 => 57 | 337 => 66 | 338 => 67 | n => n, fun | 9 => 9 | 3 => 3 | 75 => 26 | 76 => 49 | 4 => 4 | 5 => 5 | 167 => 81 | 37 => 71 | 0 => 0 | 85 => 82 | 2 => 2 | 168 => 84 | 53 => 68 | 175 => 107 | 46 => 76 | 210 => 111 | 127 => 121 | 145 => 124 | 143 => 122 | 21 => 21 | 171 => 67 | 173 => 72 | 212 => 99 | 51 => 100 | 20 => 20 | 213 => 101 | 232 => 125 | 233 => 126 | 80 => 127 | n => n, fun | 15 => 2 | 16 => 3 | 17 => 1 | 18 => 6 | 19 => 7 | n => n⟩
theorem Tryd.laysC172 : Go.Proofs.LaysC.n172 Tryd.prog Tryd.laysC172_ren := {
  mixed := by kernel_rfl
  f129 := Tryd.func54.trans (congrArg some (by kernel_rfl))
  f171 := Tryd.func11.trans (congrArg some (by kernel_rfl))
  f172 := Tryd.func20.trans (congrArg some (by kernel_rfl))
  f205 := Tryd.func65.trans (congrArg some (by kernel_rfl))
  f243 := Tryd.func16.trans (congrArg some (by kernel_rfl))
  f244 := Tryd.func32.trans (congrArg some (by kernel_rfl))
  f245 := Tryd.func33.trans (congrArg some (by kernel_rfl))
  f246 := Tryd.func22.trans (congrArg some (by kernel_rfl))
  f247 := Tryd.func48.trans (congrArg some (by kernel_rfl))
  f279 := Tryd.func49.trans (congrArg some (by kernel_rfl))
  f280 := Tryd.func50.trans (congrArg some (by kernel_rfl))
  f281 := Tryd.func51.trans (congrArg some (by kernel_rfl))
  f282 := Tryd.func52.trans (congrArg some (by kernel_rfl))
  f283 := Tryd.func36.trans (congrArg some (by kernel_rfl))
  f284 := Tryd.func37.trans (congrArg some (by kernel_rfl))
  f285 := Tryd.func38.trans (congrArg some (by kernel_rfl))
  f286 := Tryd.func39.trans (congrArg some (by kernel_rfl))
  f287 := Tryd.func63.trans (congrArg some (by kernel_rfl))
  f316 := Tryd.func64.trans (congrArg some (by kernel_rfl))
  f317 := Tryd.func53.trans (congrArg some (by kernel_rfl))
  f318 := Tryd.func55.trans (congrArg some (by kernel_rfl))
  f319 := Tryd.func56.trans (congrArg some (by kernel_rfl))
  f320 := Tryd.func57.trans (congrArg some (by kernel_rfl))
  f321 := Tryd.func70.trans (congrArg some (by kernel_rfl))
  f322 := Tryd.func71.trans (congrArg some (by kernel_rfl))
  f337 := Tryd.func66.trans (congrArg some (by kernel_rfl))
  f338 := Tryd.func67.trans (congrArg some (by kernel_rfl))
  t0 := Tryd.underlying0
  a0 := Tryd.isAgg0
  z0 := Tryd.sizeOf0
  v0 := Tryd.zeroValue0
  t2 := Tryd.underlying2
  a2 := Tryd.isAgg2
  z2 := Tryd.sizeOf2
  v2 := Tryd.zeroValue2
  t3 := Tryd.underlying3
  a3 := Tryd.isAgg3
  z3 := Tryd.sizeOf3
  v3 := Tryd.zeroValue3
  t4 := Tryd.underlying4
  a4 := Tryd.isAgg4
  z4 := Tryd.sizeOf4
  v4 := Tryd.zeroValue4
  t5 := Tryd.underlying5
  a5 := Tryd.isAgg5
  z5 := Tryd.sizeOf5
  v5 := Tryd.zeroValue5
  t9 := Tryd.underlying9
  a9 := Tryd.isAgg9
  z9 := Tryd.sizeOf9
  v9 := Tryd.zeroValue9
  t20 := Tryd.underlying20
  a20 := Tryd.isAgg20
  z20 := Tryd.sizeOf20
  v20 := Tryd.zeroValue20
  t21 := Tryd.underlying21
  a21 := Tryd.isAgg21
  z21 := Tryd.sizeOf21
  v21 := Tryd.zeroValue21
  t37 := Tryd.underlying71
  a37 := Tryd.isAgg71
  z37 := Tryd.sizeOf71
  v37 := Tryd.zeroValue71
  t46 := Tryd.underlying76
  a46 := Tryd.isAgg76
  z46 := Tryd.sizeOf76
  v46 := Tryd.zeroValue76
  t51 := Tryd.underlying100
  a51 := Tryd.isAgg100
  z51 := Tryd.sizeOf100
  v51 := Tryd.zeroValue100
  t53 := Tryd.underlying68
  a53 := Tryd.isAgg68
  z53 := Tryd.sizeOf68
  v53 := Tryd.zeroValue68
  t75 := Tryd.underlying26
  a75 := Tryd.isAgg26
  z75 := Tryd.sizeOf26
  v75 := Tryd.zeroValue26
  t76 := Tryd.underlying49
  a76 := Tryd.isAgg49
  z76 := Tryd.sizeOf49
  v76 := Tryd.zeroValue49
  t85 := Tryd.underlying82
  a85 := Tryd.isAgg82
  z85 := Tryd.sizeOf82
  v85 := Tryd.zeroValue82
  t127 := Tryd.underlying121
  a127 := Tryd.isAgg121
  z127 := Tryd.sizeOf121
  v127 := Tryd.zeroValue121
  t143 := Tryd.underlying122
  a143 := Tryd.isAgg122
  z143 := Tryd.sizeOf122
  v143 := Tryd.zeroValue122
  t145 := Tryd.underlying124
  a145 := Tryd.isAgg124
  z145 := Tryd.sizeOf124
  v145 := Tryd.zeroValue124
  t167 := Tryd.underlying81
  a167 := Tryd.isAgg81
  z167 := Tryd.sizeOf81
  v167 := Tryd.zeroValue81
  t168 := Tryd.underlying84
  a168 := Tryd.isAgg84
  z168 := Tryd.sizeOf84
  v168 := Tryd.zeroValue84
  t171 := Tryd.underlying67
  a171 := Tryd.isAgg67
  z171 := Tryd.sizeOf67
  v171 := Tryd.zeroValue67
  t173 := Tryd.underlying72
  a173 := Tryd.isAgg72
  z173 := Tryd.sizeOf72
  v173 := Tryd.zeroValue72
  t175 := Tryd.underlying107
  a175 := Tryd.isAgg107
  z175 := Tryd.sizeOf107
  v175 := Tryd.zeroValue107
  t210 := Tryd.underlying111
  a210 := Tryd.isAgg111
  z210 := Tryd.sizeOf111
  v210 := Tryd.zeroValue111
  t212 := Tryd.underlying99
  a212 := Tryd.isAgg99
  z212 := Tryd.sizeOf99
  v212 := Tryd.zeroValue99
  t213 := Tryd.underlying101
  a213 := Tryd.isAgg101
  z213 := Tryd.sizeOf101
  t232 := Tryd.underlying125
  a232 := Tryd.isAgg125
  z232 := Tryd.sizeOf125
  v232 := Tryd.zeroValue125
  t233 := Tryd.underlying126
  a233 := Tryd.isAgg126
  z233 := Tryd.sizeOf126
  v233 := Tryd.zeroValue126
  g15 := by kernel_rfl
  g16 := by kernel_rfl
  g17 := by kernel_rfl
  g18 := by kernel_rfl
  g19 := by kernel_rfl
  t80 := Tryd.underlying127
  a80 := Tryd.isAgg127
  z80 := Tryd.sizeOf127
  v80 := Tryd.zeroValue127
  i0 := by kernel_rfl
  i2 := by kernel_rfl
  i3 := by kernel_rfl
  i4 := by kernel_rfl
  i5 := by kernel_rfl
  i9 := by kernel_rfl
  i20 := by kernel_rfl
  i21 := by kernel_rfl
  i37 := by kernel_rfl
  i46 := by kernel_rfl
  i51 := by kernel_rfl
  i53 := by kernel_rfl
  i75 := by kernel_rfl
  i76 := by kernel_rfl
  i80 := by kernel_rfl
  i85 := by kernel_rfl
  i127 := by kernel_rfl
  i143 := by kernel_rfl
  i145 := by kernel_rfl
  i167 := by kernel_rfl
  i168 := by kernel_rfl
  i171 := by kernel_rfl
  i173 := by kernel_rfl
  i175 := by kernel_rfl
  i210 := by kernel_rfl
  i212 := by kernel_rfl
  i232 := by kernel_rfl
  i233 := by kernel_rfl
  m15 := by kernel_rfl
  m16 := by kernel_rfl
  m17 := by kernel_rfl
  m18 := by kernel_rfl
  m19 := by kernel_rfl
  c0 := by kernel_rfl
  c2 := by kernel_rfl
  c3 := by kernel_rfl
  c4 := by kernel_rfl
  c5 := by kernel_rfl
  c9 := by kernel_rfl
  c20 := by kernel_rfl
  c21 := by kernel_rfl
  c37 := by kernel_rfl
  c46 := by kernel_rfl
  c51 := by kernel_rfl
  c53 := by kernel_rfl
  c75 := by kernel_rfl
  c76 := by kernel_rfl
  c80 := by kernel_rfl
  c85 := by kernel_rfl
  c127 := by kernel_rfl
  c143 := by kernel_rfl
  c145 := by kernel_rfl
  c167 := by kernel_rfl
  c168 := by kernel_rfl
  c171 := by kernel_rfl
  c173 := by kernel_rfl
  c175 := by kernel_rfl
  c210 := by kernel_rfl
  c212 := by kernel_rfl
  c213 := by kernel_rfl
  c232 := by kernel_rfl
  c233 := by kernel_rfl }
open Go.RowKit in
theorem Tryd.strconv_Atoi_ok (s : ByteArray) (hmax : s.size ≤ 9223372036854775806) (v : Int) (h : Lib.atoiAll s.data.toList = .ok v) (w : World) :
    Calls Tryd.prog 20 #[.string s] w fun e w' => e = .returned (.tuple #[.int .i64 v, .nilIface]) ∧ (w' = w ∨ ∃ t, w' = Lib.bytesWorld w 5 t) := Any.strconv_Atoi_ok Tryd.laysC172 s hmax v h w
open Go.RowKit in
theorem Tryd.strconv_Atoi_range_var (s : ByteArray) (hlim : s.size ≤ 281474976710656) (h : Lib.atoiAll s.data.toList = .range) (tp : TypeId) (p : Value) (w : World) (hvar : w.var? Tryd.prog "strconv.ErrRange" = some #[.iface tp p]) :
    Calls Tryd.prog 20 #[.string s] w fun e w' => ∃ N, e = .returned (.tuple #[.int .i64 (Lib.atoiSat s.data.toList), .iface 84 (.pointer (some ⟨N, 0, none⟩))]) ∧ w.heap.size ≤ N ∧ w'.heap[N]? = some (.cells #[.string ⟨#[65, 116, 111, 105]⟩, .string s, .iface tp p] 111 (0, 0)) ∧ Below w.heap.size w w' := Any.strconv_Atoi_range_var Tryd.laysC172 s hlim h tp p w hvar
def Tryd.lays145_ren : Go.Shelf.Ren := ⟨fun | 145 => 12 | 220 => 17 | 219 => 23 | 217 => 40 | 225 => 41 | 224 => 42 | 267 => 43 | 266 => 58 | 314 => 59 | n => n, fun | 9 => 9 | 4 => 4 | 59 => 37 | 3 => 3 | 5 => 5 | 46 => 76 | 146 => 104 | 51 => 100 | n => n, fun | 1 => 0 | n => n⟩
theorem Tryd.lays145 : Go.Proofs.Lays.n145 Tryd.prog Tryd.lays145_ren := {
  mixed := by kernel_rfl
  f145 := Tryd.func12.trans (congrArg some (by kernel_rfl))
  f217 := Tryd.func40.trans (congrArg some (by kernel_rfl))
  f219 := Tryd.func23.trans (congrArg some (by kernel_rfl))
  f220 := Tryd.func17.trans (congrArg some (by kernel_rfl))
  f224 := Tryd.func42.trans (congrArg some (by kernel_rfl))
  f225 := Tryd.func41.trans (congrArg some (by kernel_rfl))
  f266 := Tryd.func58.trans (congrArg some (by kernel_rfl))
  f267 := Tryd.func43.trans (congrArg some (by kernel_rfl))
  f314 := Tryd.func59.trans (congrArg some (by kernel_rfl))
  t3 := Tryd.underlying3
  a3 := Tryd.isAgg3
  z3 := Tryd.sizeOf3
  v3 := Tryd.zeroValue3
  t4 := Tryd.underlying4
  a4 := Tryd.isAgg4
  z4 := Tryd.sizeOf4
  v4 := Tryd.zeroValue4
  t5 := Tryd.underlying5
  a5 := Tryd.isAgg5
  z5 := Tryd.sizeOf5
  v5 := Tryd.zeroValue5
  t9 := Tryd.underlying9
  a9 := Tryd.isAgg9
  z9 := Tryd.sizeOf9
  v9 := Tryd.zeroValue9
  t46 := Tryd.underlying76
  a46 := Tryd.isAgg76
  z46 := Tryd.sizeOf76
  v46 := Tryd.zeroValue76
  t51 := Tryd.underlying100
  a51 := Tryd.isAgg100
  z51 := Tryd.sizeOf100
  v51 := Tryd.zeroValue100
  t59 := Tryd.underlying37
  a59 := Tryd.isAgg37
  z59 := Tryd.sizeOf37
  v59 := Tryd.zeroValue37
  t146 := Tryd.underlying104
  a146 := Tryd.isAgg104
  z146 := Tryd.sizeOf104
  v146 := Tryd.zeroValue104
  g1 := by kernel_rfl }
open Go.RowKit Go.Lib in
theorem Tryd.strings_Cut (s sep : ByteArray) (m : Int) (w : World) (hs : s.size < 4294967281) (hm : w.cell? ⟨0, 0, none⟩ = some (.int .i64 m)) :
    Calls Tryd.prog 12 #[.string s, .string sep] w fun e w' => e = .returned (.tuple #[.string ⟨(Lib.cut s.data.toList sep.data.toList).1.toArray⟩, .string ⟨(Lib.cut s.data.toList sep.data.toList).2.1.toArray⟩, .bool (Lib.cut s.data.toList sep.data.toList).2.2]) ∧ ∃ n, w' = w.drewN n := Any.strings_Cut Tryd.lays145 s sep m w hs hm
end Go.Proofs

/- The errors that the program makes: errors.Is and errors.As walked for api.Errno and nil; an error's number. No conditions. -/
namespace Go.Proofs.YtcmnbcdimhcdkaaDoor
open Go.RowKit Go.Extern.Stop Go.Stop Go.Extern
theorem eqEE (n t : Int) (w : World) : (binOp .eql 26 (.iface 43 (.int .i64 n)) (.iface 43 (.int .i64 t))).run Tryd.prog w = .ok (.bool (n == t)) w := by kernel_rfl
theorem eqNN (w : World) : (binOp .eql 26 .nilIface .nilIface).run Tryd.prog w = .ok (.bool true) w := by kernel_rfl
theorem eqIN (t : Nat) (v : Value) (w : World) : (binOp .eql 26 (.iface t v) .nilIface).run Tryd.prog w = .ok (.bool false) w := by kernel_rfl
theorem eqNE (n : Int) (w : World) : (binOp .eql 26 .nilIface (.iface 43 (.int .i64 n))).run Tryd.prog w = .ok (.bool false) w := by kernel_rfl
theorem tOE (n : Int) (w : World) : (Extern.ReflectliteType.typeOf #[.iface 43 (.int .i64 n)]).run Tryd.prog w = .ok (.iface 88 (.agg #[.pointer (some ⟨8, 43, none⟩)])) w := by kernel_rfl
theorem cOE (w : World) : ((Extern.ReflectliteType.method fun t => do Rtype.noPackHeld "Comparable" t; (fun a => Value.bool a.comparable) <$> typeInfo t) #[.agg #[.pointer (some ⟨8, 43, none⟩)]]).run Tryd.prog w = .ok (.bool true) w := by kernel_rfl
theorem mOE (v : Value) (w : World) : (Go.method 259 88 v "Comparable").run Tryd.prog w = .ok (96, v) w := by kernel_rfl
theorem noIsE (v : Value) (xT : TypeId) (w : World) : (Instr.typeAssert (.iface 43 v) xT 90 true).run Tryd.prog w = .ok (.tuple #[.nilIface, .bool false]) w := run_typeAssert_lacksB Tryd.underlying90 (by kernel_rfl) (by kernel_rfl) v xT w
theorem noUnwrapE (v : Value) (xT : TypeId) (w : World) : (Instr.typeAssert (.iface 43 v) xT 93 true).run Tryd.prog w = .ok (.tuple #[.nilIface, .bool false]) w := run_typeAssert_lacksB Tryd.underlying93 (by kernel_rfl) (by kernel_rfl) v xT w
theorem noUnwrapsE (v : Value) (xT : TypeId) (w : World) : (Instr.typeAssert (.iface 43 v) xT 95 true).run Tryd.prog w = .ok (.tuple #[.nilIface, .bool false]) w := run_typeAssert_lacksB Tryd.underlying95 (by kernel_rfl) (by kernel_rfl) v xT w
theorem is_nil (n : Int) (w : World) :
    Calls Tryd.prog 21 #[.nilIface, .iface 43 (.int .i64 n)] w fun e w' => e = .returned (.bool false) ∧ w' = w := by
  have hn := eqNE
  have hn2 := eqNN
  go_enter Tryd.func21, Tryd.ntmps21
  go_wp2
  go_ret
  exact ⟨rfl, rfl⟩
structure HasNo (v : Value) (m : Int) : Prop where
  form : ∃ t x, v = .iface t x
  lo : 1 ≤ m
  hi : m ≤ 36
  is : ∀ t w, Calls Tryd.prog 21 #[v, .iface 43 (.int .i64 t)] w fun e w' => e = .returned (.bool (m == t)) ∧ Below w.heap.size w w'
def EV (v : Value) (m : Int) : Prop := (v = .nilIface ∧ m = 0) ∨ HasNo v m
def foundTo (m : Int) (k : Int) : Int := if m < k then m else 0
end Go.Proofs.YtcmnbcdimhcdkaaDoor

/- errors.As at a *api.Fault, walked for nil and for an api.Errno: it finds none; flotillakit.Plain. Condition: errors.errorType reads as its text lays it. -/
namespace Go.Proofs.YtcmnbcdimhcdkaaDoor
open Go.RowKit Go.Extern.Stop Go.Stop Go.Extern
theorem bcell {W w1 : World} (hb : Below W.heap.size W w1) : (∀ b o, b < W.heap.size → w1.cell? ⟨b, o, none⟩ = W.cell? ⟨b, o, none⟩) ∧ (∀ b o, b < W.heap.size → w1.frozen? ⟨b, o, none⟩ = W.frozen? ⟨b, o, none⟩) :=
  ⟨fun b o h => hb.cell (p := ⟨b, o, none⟩) h, fun b o h => hb.frozen (p := ⟨b, o, none⟩) h⟩
theorem ret_bool {a b : Bool} (h : a = b) : Ending.returned (.bool a) = .returned (.bool b) := by rw [h]
end Go.Proofs.YtcmnbcdimhcdkaaDoor

/- amount's own error (wrong): errors.Is and errors.As walked for it: its number is ErrAmount, it holds no Fault. No conditions. -/
namespace Go.Proofs.YtcmnbcdimhcdkaaDoor
open Go.RowKit Go.Extern.Stop Go.Stop Go.Extern
theorem eqWE (c m n : Int) (w : World) : (binOp .eql 26 (.iface 47 (.agg #[.int .i64 c, .int .i64 m])) (.iface 43 (.int .i64 n))).run Tryd.prog w = .ok (.bool false) w := by kernel_rfl
theorem noIsW (v : Value) (xT : TypeId) (w : World) : (Instr.typeAssert (.iface 47 v) xT 90 true).run Tryd.prog w = .ok (.tuple #[.nilIface, .bool false]) w := run_typeAssert_lacksB Tryd.underlying90 (by kernel_rfl) (by kernel_rfl) v xT w
theorem hasUnwrapW (v : Value) (xT : TypeId) (w : World) : (Instr.typeAssert (.iface 47 v) xT 93 true).run Tryd.prog w = .ok (.tuple #[.iface 47 v, .bool true]) w := run_typeAssert_hasB Tryd.underlying93 (by kernel_rfl) v xT w
theorem methodUnwrap (v : Value) (w : World) : (Go.method 259 47 v "Unwrap").run Tryd.prog w = .ok (89, v) w := by kernel_rfl
theorem unwrap_w (c m : Int) (w : World) : Calls Tryd.prog 89 #[.agg #[.int .i64 c, .int .i64 m]] w fun e w' => e = .returned (.iface 43 (.int .i64 13)) ∧ Below w.heap.size w w' := by
  go_enter Tryd.func89, Tryd.ntmps89
  go_wp2
  go_ret
  exact ⟨rfl, (Below.refl _ _).alloc (Nat.le_refl _) _⟩
set_option maxRecDepth 100000 in
set_option maxHeartbeats 1600000 in
theorem is_wrong (c m t : Int) (w : World) :
    Calls Tryd.prog 21 #[.iface 47 (.agg #[.int .i64 c, .int .i64 m]), .iface 43 (.int .i64 t)] w fun e w' => e = .returned (.bool ((13 : Int) == t)) ∧ Below w.heap.size w w' := by
  have h8 := @run_callFunc_extern Tryd.prog 34 _ Extern.ReflectliteType.typeOf Tryd.func34 (by kernel_rfl) (by kernel_rfl) (by kernel_rfl) (by kernel_rfl)
  have h32 := @run_callFunc_extern Tryd.prog 96 _ (Extern.ReflectliteType.method fun t => do Rtype.noPackHeld "Comparable" t; pure (.bool (← typeInfo t).comparable)) Tryd.func96 (by kernel_rfl) (by kernel_rfl) (by kernel_rfl) (by kernel_rfl)
  have tT := tOE
  have cT := cOE
  have mR := mOE
  have nE := noIsE
  have uE := noUnwrapE
  have vE := noUnwrapsE
  have nW := noIsW
  have uW := hasUnwrapW
  have mU := methodUnwrap
  have e1 := eqEE
  have e2 := eqIN
  have e3 := eqWE
  by_cases h : 13 = t
  · subst h
    go_enter Tryd.func21, Tryd.ntmps21
    go_wp2
    refine wp_loop_rounds 2 ?_
    rw [rounds_succ]
    go_wp2_with (go_at_call 89; refine (unwrap_w c m _).mono ?_; rintro e w' ⟨rfl, hb⟩)
    rw [rounds_succ]
    go_wp2
    go_ret
    exact ⟨ret_bool (by simp), hb⟩
  · have hb : ((13 : Int) == t) = false := by simpa using h
    clear h
    go_enter Tryd.func21, Tryd.ntmps21
    go_wp2
    refine wp_loop_rounds 2 ?_
    rw [rounds_succ]
    go_wp2_with (go_at_call 89; refine (unwrap_w c m _).mono ?_; rintro e w' ⟨rfl, hb'⟩)
    rw [rounds_succ]
    go_wp2
    go_ret
    exact ⟨ret_bool hb.symm, hb'⟩
end Go.Proofs.YtcmnbcdimhcdkaaDoor

/- amount.check and amount.made, walked; errors as codes. No conditions but that the numbers are Go's ints. -/
namespace Go.Proofs.YtcmnbcdimhcdkaaDoor
open Go.RowKit Go.Extern.Stop Go.Stop Go.Extern Go.Proofs.YtcmnbcdimhcdkaaDoorW.PrintWords Go.Proofs.YtcmnbcdimhcdkaaDoorW.PrintLast
def rN (n : Int) : Bool := decide (0 ≤ n) && decide (n ≤ 1099511627776)
def rA (c m : Int) : Bool := rN c && rN m
theorem Right_a (c m : Int) (w : World) : Calls Tryd.prog 6 #[.agg #[.int .i64 c, .int .i64 m]] w fun e w' => e = .returned (.bool (rA c m)) ∧ Below w.heap.size w w' := by
  by_cases h1 : 0 ≤ c
  · by_cases h2 : c ≤ 1099511627776
    · by_cases h3 : 0 ≤ m
      · by_cases h4 : m ≤ 1099511627776
        all_goals
          go_enter Tryd.func6, Tryd.ntmps6
          go_wp2
          go_ret
          exact ⟨ret_bool (by simp [rA, rN]; omega), (Below.refl _ _).alloc (Nat.le_refl _) _⟩
      · go_enter Tryd.func6, Tryd.ntmps6
        go_wp2
        go_ret
        exact ⟨ret_bool (by simp [rA, rN]; omega), (Below.refl _ _).alloc (Nat.le_refl _) _⟩
    · go_enter Tryd.func6, Tryd.ntmps6
      go_wp2
      go_ret
      exact ⟨ret_bool (by simp [rA, rN]; omega), (Below.refl _ _).alloc (Nat.le_refl _) _⟩
  · go_enter Tryd.func6, Tryd.ntmps6
    go_wp2
    go_ret
    exact ⟨ret_bool (by simp [rA, rN]; omega), (Below.refl _ _).alloc (Nat.le_refl _) _⟩
def wrV (c m : Int) : Value := .iface 47 (.agg #[.int .i64 c, .int .i64 m])
def firstBad : List (Int × Int) → Value
  | [] => .nilIface
  | p :: r => if rA p.1 p.2 = true then firstBad r else wrV p.1 p.2
theorem firstBad_skip (l : List (Int × Int)) (k : Nat) (h : ∀ j, j < k → ∀ p, l[j]? = some p → rA p.1 p.2 = true) : firstBad l = firstBad (l.drop k) := by
  induction k generalizing l with
  | zero => rfl
  | succ k ih =>
    cases l with
    | nil => simp
    | cons p r =>
      have h0 := h 0 (by omega) p rfl
      rw [List.drop_succ_cons, ← ih r (fun j hj q hq => h (j + 1) (by omega) q (by simpa using hq))]
      simp [firstBad, h0]
theorem firstBad_at (l : List (Int × Int)) (k : Nat) (p : Int × Int) (hp : l[k]? = some p) (hr : rA p.1 p.2 = false) (h : ∀ j, j < k → ∀ p, l[j]? = some p → rA p.1 p.2 = true) : firstBad l = wrV p.1 p.2 := by
  have hk : k < l.length := by
    rcases Nat.lt_or_ge k l.length with h | h
    · exact h
    · simp [List.getElem?_eq_none h] at hp
  have hpk : l[k] = p := by
    rw [List.getElem?_eq_getElem hk] at hp
    exact Option.some.inj hp
  rw [firstBad_skip l k h, List.drop_eq_getElem_cons hk, hpk]
  simp [firstBad, hr]
set_option maxHeartbeats 1600000 in
theorem check_l (l : List (Int × Int)) (b : Nat) (cap : Nat) (w : World) (hl : l.length ≤ 1000) (hb : b < w.heap.size)
    (hc0 : ∀ j p, l[j]? = some p → w.cell? ⟨b, j * 2, none⟩ = some (.int .i64 p.1)) (hc1 : ∀ j p, l[j]? = some p → w.cell? ⟨b, j * 2 + 1, none⟩ = some (.int .i64 p.2)) :
    Calls Tryd.prog 10 #[.slice (some ⟨b, 0, none⟩) l.length cap] w fun e w' => e = .returned (firstBad l) ∧ Below w.heap.size w w' := by
  have H0 := Lib.hid hc0
  have H1 := Lib.hid hc1
  clear hc0 hc1
  go_enter Tryd.func10, Tryd.ntmps10
  go_wp2
  go_loopw [7] (fun i wr => ∃ k : Nat, k ≤ l.length ∧ i = .int .i64 k ∧ Hid (∀ j, j < k → ∀ p, l[j]? = some p → rA p.1 p.2 = true) ∧ Below w.heap.size w wr) (fun i _ => l.length - (intOf i).toNat)
  case atStart => exact ⟨0, Nat.zero_le _, rfl, Lib.hid (fun j hj => absurd hj (Nat.not_lt_zero _)), Below.refl _ _⟩
  case round =>
    obtain ⟨k, hk, rfl, hall, hB⟩ := hrel
    by_cases hlt : k < l.length
    · obtain ⟨c, m, hp⟩ : ∃ c m, l[k]? = some (c, m) := ⟨l[k].1, l[k].2, by simp [List.getElem?_eq_getElem hlt]⟩
      have q0 := H0.out k _ hp
      have q1 := H1.out k _ hp
      rw [← hB.cell (p := ⟨b, k * 2, none⟩) hb] at q0
      rw [← hB.cell (p := ⟨b, k * 2 + 1, none⟩) hb] at q1
      simp only at q0 q1
      have HP := Lib.hid hp
      clear hp
      cases hr : rA c m
      · go_wp2_with (go_at_call 6; refine (Right_a _ _ _).mono ?_; rintro e w1 ⟨rfl, hb1⟩; rw [hr]; obtain ⟨hcc, hff⟩ := bcell hb1)
        go_ret
        exact ⟨by rw [firstBad_at l k (c, m) HP.out hr hall.out]; rfl, (hB.alloc hB.size _).trans (hb1.mono (by have := hB.size; simp; omega))⟩
      · go_wp2_with (go_at_call 6; refine (Right_a _ _ _).mono ?_; rintro e w1 ⟨rfl, hb1⟩; rw [hr])
        go_roundw
        case rel => exact ⟨k + 1, by omega, by go_num, Lib.hid (fun j hj p hpj => by
            by_cases e : j < k
            · exact hall.out j e p hpj
            · obtain rfl : j = k := by omega
              rw [HP.out] at hpj
              cases hpj
              exact hr), (hB.alloc hB.size _).trans (hb1.mono (by have := hB.size; simp; omega))⟩
        case measure => simp [intOf]; omega
    · go_wp2
      go_ret
      exact ⟨by rw [firstBad_skip l k hall.out, List.drop_eq_nil_of_le (by omega)]; rfl, hB⟩
theorem check_three (c0 m0 c1 m1 c2 m2 : Int) (w : World) (b : Nat) (hbw : b = w.heap.size) :
    Calls Tryd.prog 10 #[.slice (some ⟨b, 0, none⟩) 3 3] (w.alloc (.cells #[.int .i64 c0, .int .i64 m0, .int .i64 c1, .int .i64 m1, .int .i64 c2, .int .i64 m2] 23)) fun e w' =>
      e = .returned (firstBad [(c0, m0), (c1, m1), (c2, m2)]) ∧ Below w.heap.size w w' := by
  subst hbw
  have hc : ∀ j, (w.alloc (.cells #[.int .i64 c0, .int .i64 m0, .int .i64 c1, .int .i64 m1, .int .i64 c2, .int .i64 m2] 23)).cell? ⟨w.heap.size, j, none⟩ = (#[.int .i64 c0, .int .i64 m0, .int .i64 c1, .int .i64 m1, .int .i64 c2, .int .i64 m2] : Array Value)[j]? := fun j => blk_cell (blk_new w _) j
  refine (check_l [(c0, m0), (c1, m1), (c2, m2)] w.heap.size 3 _ (by simp) (by simp) ?_ ?_).mono fun e w' ⟨he, hb⟩ => ⟨he, ((Below.refl _ _).alloc (Nat.le_refl _) _).trans (hb.mono (by simp))⟩
  · intro j p hp
    rw [hc]
    match j, hp with
    | 0, hp => cases hp; rfl
    | 1, hp => cases hp; rfl
    | 2, hp => cases hp; rfl
    | j + 3, hp => simp at hp
  · intro j p hp
    rw [hc]
    match j, hp with
    | 0, hp => cases hp; rfl
    | 1, hp => cases hp; rfl
    | 2, hp => cases hp; rfl
    | j + 3, hp => simp at hp
set_option maxHeartbeats 1600000 in
theorem made_ok (c0 m0 c1 m1 c2 m2 : Int) (w : World) (h0 : rA c0 m0 = true) (h1 : rA c1 m1 = true) (h2 : rA c2 m2 = true) :
    Calls Tryd.prog 15 #[.agg #[.int .i64 c0, .int .i64 m0], .agg #[.int .i64 c1, .int .i64 m1], .agg #[.int .i64 c2, .int .i64 m2]] w fun e w' =>
      e = .returned (.tuple #[.agg #[.int .i64 c2, .int .i64 m2], .nilIface]) ∧ Below w.heap.size w w' := by
  have hbad : firstBad [(c0, m0), (c1, m1), (c2, m2)] = .nilIface := by simp [firstBad, h0, h1, h2]
  have HC := fun (W : World) (b : Nat) (hbw : b = W.heap.size) => check_three c0 m0 c1 m1 c2 m2 W b hbw
  rw [hbad] at HC
  clear hbad h0 h1 h2
  have hB0 : Below w.heap.size w ((((w.alloc (.cells #[.int .i64 c0, .int .i64 m0] 23)).alloc (.cells #[.int .i64 c1, .int .i64 m1] 23)).alloc (.cells #[.int .i64 c2, .int .i64 m2] 23)).alloc (.cells #[.int .i64 0, .int .i64 0] 23)) := ((((Below.refl _ _).alloc (Nat.le_refl _) _).alloc (by simp) _).alloc (by simp; omega) _).alloc (by simp; omega) _
  have HB0 := Lib.hid hB0
  clear hB0
  go_enter Tryd.func15, Tryd.ntmps15
  go_wp2_with (first | (go_at_call 10; refine (HC _ _ (by simp)).mono ?_; rintro e w1 ⟨rfl, hb1⟩; obtain ⟨hcc, hff⟩ := bcell hb1) | (go_at_call 21; refine (is_nil _ _).mono ?_; rintro e w2 ⟨rfl, rfl⟩))
  have hB1 := HB0.out.trans (hb1.mono (B' := w.heap.size) (by simp; omega))
  exact bodyPost_ret (v := .tuple #[.agg #[.int .i64 c2, .int .i64 m2], .nilIface]) (by simp [results, Tryd.results15, go_sem, hcc]) rfl ⟨rfl, (hB1.setCell (by simp; omega) _).setCell (by simp; omega) _⟩
set_option maxHeartbeats 1600000 in
theorem made_bad (c0 m0 c1 m1 c2 m2 c m : Int) (w : World) (h : firstBad [(c0, m0), (c1, m1), (c2, m2)] = wrV c m) :
    Calls Tryd.prog 15 #[.agg #[.int .i64 c0, .int .i64 m0], .agg #[.int .i64 c1, .int .i64 m1], .agg #[.int .i64 c2, .int .i64 m2]] w fun e w' =>
      e = .returned (.tuple #[.agg #[.int .i64 0, .int .i64 0], wrV c m]) ∧ Below w.heap.size w w' := by
  have HC := fun (W : World) (b : Nat) (hbw : b = W.heap.size) => check_three c0 m0 c1 m1 c2 m2 W b hbw
  rw [h] at HC
  clear h
  unfold wrV at HC ⊢
  have hB0 : Below w.heap.size w ((((w.alloc (.cells #[.int .i64 c0, .int .i64 m0] 23)).alloc (.cells #[.int .i64 c1, .int .i64 m1] 23)).alloc (.cells #[.int .i64 c2, .int .i64 m2] 23)).alloc (.cells #[.int .i64 0, .int .i64 0] 23)) := ((((Below.refl _ _).alloc (Nat.le_refl _) _).alloc (by simp) _).alloc (by simp; omega) _).alloc (by simp; omega) _
  have HB0 := Lib.hid hB0
  clear hB0
  go_enter Tryd.func15, Tryd.ntmps15
  go_wp2_with (first | (go_at_call 10; refine (HC _ _ (by simp)).mono ?_; rintro e w1 ⟨rfl, hb1⟩; obtain ⟨hcc, hff⟩ := bcell hb1; have hz1 : w.heap.size + 1 + 1 + 1 < w1.heap.size := by (have := hb1.size; simp at this; omega)) | (go_at_call 21; refine (is_wrong _ _ _ _).mono ?_; rintro e w2 ⟨rfl, hb2⟩; obtain ⟨hcc2, hff2⟩ := bcell hb2))
  have hB1 := HB0.out.trans (hb1.mono (B' := w.heap.size) (by simp; omega))
  have hB2 := hB1.trans (hb2.mono (B' := w.heap.size) (by omega))
  exact bodyPost_ret (v := .tuple #[.agg #[.int .i64 0, .int .i64 0], .iface 47 (.agg #[.int .i64 c, .int .i64 m])]) (by simp [results, Tryd.results15, go_sem, hcc, hcc2, hz1]) rfl ⟨rfl, (hB2.setCell (by simp; omega) _).setCell (by simp; omega) _⟩
end Go.Proofs.YtcmnbcdimhcdkaaDoor

/- Errors as codes: a number, or an amount that may not be; amount.made, flotillakit.Num and flotillakit.Plain told by them. -/
namespace Go.Proofs.YtcmnbcdimhcdkaaDoor
open Go.RowKit
def bigI : Int := 9223372036854775808
def bigJ : Int := 18446744073709551616
def errT (c : Int) : TypeId := if c < bigI then 43 else 47
def dec1 (c : Int) : Int := (c - bigI) / bigJ - bigI
def dec2 (c : Int) : Int := (c - bigI) % bigJ - bigI
def errV (c : Int) : Value := if c < bigI then .int .i64 c else .agg #[.int .i64 (dec1 c), .int .i64 (dec2 c)]
def wcode (c m : Int) : Int := bigI + (c + bigI) * bigJ + (m + bigI)
def isI (x : Int) : Bool := decide (-bigI ≤ x) && decide (x < bigI)
theorem isI_iff (x : Int) : isI x = true ↔ -9223372036854775808 ≤ x ∧ x < 9223372036854775808 := by
  unfold isI bigI
  rw [Bool.and_eq_true, decide_eq_true_iff, decide_eq_true_iff]
theorem wcode_big (c m : Int) (hc : isI c = true) (hm : isI m = true) : ¬ wcode c m < bigI := by
  rw [isI_iff] at hc hm
  unfold wcode bigI bigJ
  omega
theorem wr_code (c m : Int) (hc : isI c = true) (hm : isI m = true) : Value.iface (errT (wcode c m)) (errV (wcode c m)) = wrV c m := by
  have hb := wcode_big c m hc hm
  rw [isI_iff] at hc hm
  have h1 : dec1 (wcode c m) = c := by unfold dec1 wcode bigI bigJ; omega
  have h2 : dec2 (wcode c m) = m := by unfold dec2 wcode bigI bigJ; omega
  unfold errT errV wrV
  rw [if_neg hb, if_neg hb, h1, h2]
def codeNo (c : Int) : Int := if c < bigI then c else 13
def goodC (c : Int) : Bool := decide (1 ≤ c) && (decide (c ≤ 36) || decide (bigI ≤ c))
def badC (a b c d e f : Int) : Int := if rA a b = true then (if rA c d = true then wcode e f else wcode c d) else wcode a b
def madeF (a b c d e f : Int) : Option (Int × Int × Option Int) :=
  if (rA a b && rA c d && rA e f) = true then some (e, f, none) else if (isI a && isI b && isI c && isI d && isI e && isI f) = true then some (0, 0, some (badC a b c d e f)) else none
def plainF (a : Option Int) (n : Int) : Option Bool :=
  match a with
  | none => some ((0 : Int) == n)
  | some c => if goodC c = true then some (codeNo c == n) else none
def numF (a : Option Int) : Option Int :=
  match a with
  | none => some 0
  | some c => if goodC c = true then some (codeNo c) else none
def errO : Option Int → Value
  | none => .nilIface
  | some c => .iface (errT c) (errV c)
theorem made_code (a0 a1 b0 b1 c0 c1 r1 r2 : Int) (r3 : Option Int) (w : World) (h : madeF a0 a1 b0 b1 c0 c1 = some (r1, r2, r3)) :
    Calls Tryd.prog 15 #[.agg #[.int .i64 a0, .int .i64 a1], .agg #[.int .i64 b0, .int .i64 b1], .agg #[.int .i64 c0, .int .i64 c1]] w fun e w' => e = .returned (.tuple #[.agg #[.int .i64 r1, .int .i64 r2], errO r3]) ∧ Below w.heap.size w w' := by
  unfold madeF at h
  by_cases hr : (rA a0 a1 && rA b0 b1 && rA c0 c1) = true
  · rw [if_pos hr] at h
    simp only [Option.some.injEq, Prod.mk.injEq] at h
    obtain ⟨rfl, rfl, rfl⟩ := h
    simp only [Bool.and_eq_true] at hr
    exact made_ok a0 a1 b0 b1 c0 c1 w hr.1.1 hr.1.2 hr.2
  · rw [if_neg hr] at h
    by_cases hi : (isI a0 && isI a1 && isI b0 && isI b1 && isI c0 && isI c1) = true
    · rw [if_pos hi] at h
      simp only [Option.some.injEq, Prod.mk.injEq] at h
      obtain ⟨rfl, rfl, rfl⟩ := h
      simp only [Bool.and_eq_true] at hi
      obtain ⟨⟨⟨⟨⟨i1, i2⟩, i3⟩, i4⟩, i5⟩, i6⟩ := hi
      unfold badC errO
      by_cases h0 : rA a0 a1 = true
      · by_cases h1 : rA b0 b1 = true
        · have h2 : ¬ rA c0 c1 = true := fun h2 => hr (by simp [h0, h1, h2])
          simp only [if_pos h0, if_pos h1]
          rw [wr_code c0 c1 i5 i6]
          exact made_bad a0 a1 b0 b1 c0 c1 c0 c1 w (by simp [firstBad, h0, h1, h2])
        · simp only [if_pos h0, if_neg h1]
          rw [wr_code b0 b1 i3 i4]
          exact made_bad a0 a1 b0 b1 c0 c1 b0 b1 w (by simp [firstBad, h0, h1])
      · simp only [if_neg h0]
        rw [wr_code a0 a1 i1 i2]
        exact made_bad a0 a1 b0 b1 c0 c1 a0 a1 w (by simp [firstBad, h0])
    · rw [if_neg hi] at h
      cases h
end Go.Proofs.YtcmnbcdimhcdkaaDoor

/- amount.check over a row of amounts wherever it lies. -/
namespace Go.Proofs.YtcmnbcdimhcdkaaDoor
open Go.RowKit Go.Extern.Stop Go.Stop Go.Extern Go.Proofs.YtcmnbcdimhcdkaaDoorW.PrintWords Go.Proofs.YtcmnbcdimhcdkaaDoorW.PrintLast
theorem check_a (l : List (Int × Int)) (ad : Addr) (cap : Nat) (w : World) (hl : l.length ≤ 9223372036854775807)
    (hc0 : ∀ j p, l[j]? = some p → w.cell? (ad.add (j * 2)) = some (.int .i64 p.1)) (hc1 : ∀ j p, l[j]? = some p → w.cell? ⟨(ad.add (j * 2)).block, (ad.add (j * 2)).off + 1, none⟩ = some (.int .i64 p.2)) :
    Calls Tryd.prog 10 #[.slice (some ad) l.length cap] w fun e w' => e = .returned (firstBad l) ∧ Below w.heap.size w w' := by
  have H0 := Lib.hid hc0
  have H1 := Lib.hid hc1
  clear hc0 hc1
  go_enter Tryd.func10, Tryd.ntmps10
  go_wp2
  go_loopw [7] (fun i wr => ∃ k : Nat, k ≤ l.length ∧ i = .int .i64 k ∧ Hid (∀ j, j < k → ∀ p, l[j]? = some p → rA p.1 p.2 = true) ∧ Below w.heap.size w wr) (fun i _ => l.length - (intOf i).toNat)
  case atStart => exact ⟨0, Nat.zero_le _, rfl, Lib.hid (fun j hj => absurd hj (Nat.not_lt_zero _)), Below.refl _ _⟩
  case round =>
    obtain ⟨k, hk, rfl, hall, hB⟩ := hrel
    by_cases hlt : k < l.length
    · obtain ⟨c, m, hp⟩ : ∃ c m, l[k]? = some (c, m) := ⟨l[k].1, l[k].2, by simp [List.getElem?_eq_getElem hlt]⟩
      have q0 := H0.out k _ hp
      have q1 := H1.out k _ hp
      replace q0 := (hB.cell (World.block_lt_of_cell? w _ q0)).trans q0
      replace q1 := (hB.cell (World.block_lt_of_cell? w _ q1)).trans q1
      simp only at q0 q1
      have HP := Lib.hid hp
      clear hp
      cases hr : rA c m
      · go_wp2_with (go_at_call 6; refine (Right_a _ _ _).mono ?_; rintro e w1 ⟨rfl, hb1⟩; rw [hr]; obtain ⟨hcc, hff⟩ := bcell hb1)
        go_ret
        exact ⟨by rw [firstBad_at l k (c, m) HP.out hr hall.out]; rfl, (hB.alloc hB.size _).trans (hb1.mono (by have := hB.size; simp; omega))⟩
      · go_wp2_with (go_at_call 6; refine (Right_a _ _ _).mono ?_; rintro e w1 ⟨rfl, hb1⟩; rw [hr])
        go_roundw
        case rel => exact ⟨k + 1, by omega, by go_num, Lib.hid (fun j hj p hpj => by
            by_cases e : j < k
            · exact hall.out j e p hpj
            · obtain rfl : j = k := by omega
              rw [HP.out] at hpj
              cases hpj
              exact hr), (hB.alloc hB.size _).trans (hb1.mono (by have := hB.size; simp; omega))⟩
        case measure => simp [intOf]; omega
    · go_wp2
      go_ret
      exact ⟨by rw [firstBad_skip l k hall.out, List.drop_eq_nil_of_le (by omega)]; rfl, hB⟩
def checkO : List (Int × Int) → Option (Option Int)
  | [] => some none
  | p :: r => if isI p.1 = true ∧ isI p.2 = true then (if rA p.1 p.2 = true then checkO r else some (some (wcode p.1 p.2))) else none
theorem checkO_first (l : List (Int × Int)) (r : Option Int) (h : checkO l = some r) : firstBad l = errO r := by
  induction l with
  | nil =>
    obtain rfl := Option.some.inj h
    rfl
  | cons p t ih =>
    unfold checkO at h
    split at h
    next hi =>
      split at h
      next hr =>
        rw [firstBad, if_pos hr]
        exact ih h
      next hr =>
        obtain rfl := Option.some.inj h
        rw [firstBad, if_neg hr]
        exact (wr_code _ _ hi.1 hi.2).symm
    next hi => cases h
theorem check_nil (c : Nat) (A : Option Addr) (w : World) :
    Calls Tryd.prog 10 #[.slice A 0 c] w fun e w' => e = .returned .nilIface ∧ Below w.heap.size w w' := by
  go_enter Tryd.func10, Tryd.ntmps10
  go_wp2
  go_loopw [7] (fun i wr => i = .int .i64 0 ∧ Below w.heap.size w wr) (fun i _ => 0)
  case atStart => exact ⟨rfl, Below.refl _ _⟩
  case round =>
    obtain ⟨rfl, hB⟩ := hrel
    go_wp2
    go_ret
    exact ⟨rfl, hB⟩
end Go.Proofs.YtcmnbcdimhcdkaaDoor

/- strconv.Itoa where the table of powers of ten starts as the program's text lays it. -/
namespace Go.Proofs.YtcmnbcdimhcdkaaDoor
open Go.RowKit Go.Proofs.YtcmnbcdimhcdkaaDoorW.PrintWords
def Pow10At (w : World) : Prop := Lib.TabIs Tryd.prog w "internal/strconv.uint64pow10" .u64 Lib.pow10Tab
theorem Pow10At.below {w w1 : World} (h : Pow10At w) (hb : Below w.heap.size w w1) : Pow10At w1 :=
  Go.Joins.tab_stays (g := 1) (by kernel_rfl) h hb (Nat.le_refl _)
def itoaF (n : Int) : Option ByteArray := if isI n = true then some ⟨(Lib.itoa n).toArray⟩ else none
theorem itoa_calls (a0 : Int) (r : ByteArray) (w : World) (h : itoaF a0 = some r) (hInv : Pow10At w) :
    Calls Tryd.prog 11 #[.int .i64 a0] w fun e w' => e = .returned (.string r) ∧ Below w.heap.size w w' := by
  unfold itoaF at h
  split at h
  next hi =>
    obtain rfl := Option.some.inj h
    have hb := (isI_iff a0).1 hi
    refine (Tryd.strconv_Itoa a0 hb.1 (by omega) w hInv).mono fun e w' ⟨he, k, os, hw⟩ => ⟨he, ?_⟩
    subst hw
    exact Lib.below_grow _ _ (Nat.le_refl _) k os
  next => cases h
end Go.Proofs.YtcmnbcdimhcdkaaDoor

/- The steps of a drawn region, in few words: what has come up is a number's bits. -/
namespace Go.Proofs.YtcmnbcdimhcdkaaDoor
open Go.RowKit Go.Proofs.YtcmnbcdimhcdkaaDoorW.PrintWords Go.Proofs.YtcmnbcdimhcdkaaDoorW.PrintLast
def bs (n m : Nat) : Array Bool := ((List.range n).map m.testBit).toArray
section
variable {P : Program} {md : Region.Mode} {ops : Array Oper} {ds : List Nat} {Q : Exit → Act → World → Prop} {S : World → Prop} {T : Bool × List (List Nat × List Nat)} {B : List Nat} {oi : Oper} {fuel : Nat} {l : Array Bool} {a : Act} {w : World}
theorem nm (h : ∃ a', a = a' ∧ wpAnyLast P md ops Q S ds fuel l a' w) : wpAnyLast P md ops Q S ds fuel l a w := by
  obtain ⟨a', ha, h⟩ := h
  exact norm_ ha h
end
end Go.Proofs.YtcmnbcdimhcdkaaDoor

/- Texts of amounts, plainly: rows of digits, what they tell, how a text is cut. No code. -/
namespace Go.Proofs.YtcmnbcdimhcdkaaDoor.TxP
open Go.Lib
def isD (b : UInt8) : Bool := decide (48 ≤ b.toNat ∧ b.toNat ≤ 57)
def valFrom (a : Nat) (l : List UInt8) : Nat := l.foldl (fun a b => a * 10 + (b.toNat - 48)) a
theorem valFrom_cons (a : Nat) (b : UInt8) (l : List UInt8) : valFrom a (b :: l) = valFrom (a * 10 + (b.toNat - 48)) l := by simp only [valFrom, List.foldl_cons]
theorem valFrom_append (a : Nat) (l m : List UInt8) : valFrom a (l ++ m) = valFrom (valFrom a l) m := by simp [valFrom]
theorem valFrom_ge : ∀ (l : List UInt8) (a : Nat), a ≤ valFrom a l
  | [], a => Nat.le_refl _
  | b :: l, a => by
    rw [valFrom_cons]
    have := valFrom_ge l (a * 10 + (b.toNat - 48))
    omega
theorem parse_digits : ∀ (l : List UInt8) (a : Nat), (∀ b ∈ l, isD b = true) → a < 18446744073709551616 → (parseUint10 a l = .ok (valFrom a l) ∧ valFrom a l < 18446744073709551616) ∨ (parseUint10 a l = .range ∧ 18446744073709551616 ≤ valFrom a l)
  | [], a, _, ha => Or.inl ⟨rfl, ha⟩
  | b :: l, a, h, ha => by
    have hb := h b (List.mem_cons_self ..)
    have hb' : 48 ≤ b.toNat ∧ b.toNat ≤ 57 := by simpa [isD] using hb
    rw [valFrom_cons]
    have hg := valFrom_ge l (a * 10 + (b.toNat - 48))
    simp only [parseUint10, if_pos hb']
    by_cases h1 : 1844674407370955162 ≤ a
    · rw [if_pos h1]
      exact Or.inr ⟨rfl, by omega⟩
    · rw [if_neg h1]
      by_cases h2 : 18446744073709551616 ≤ a * 10 + (b.toNat - 48)
      · rw [if_pos h2]
        exact Or.inr ⟨rfl, by omega⟩
      · rw [if_neg h2]
        exact parse_digits l _ (fun c hc => h c (List.mem_cons_of_mem _ hc)) (by omega)
theorem atoi_digits {l : List UInt8} (h : ∀ b ∈ l, isD b = true) (hne : l ≠ []) : atoiAll l = if valFrom 0 l < 9223372036854775808 then .ok (valFrom 0 l : Int) else .range := by
  cases l with
  | nil => exact absurd rfl hne
  | cons c r =>
    have hc : 48 ≤ c.toNat ∧ c.toNat ≤ 57 := by simpa [isD] using h c (List.mem_cons_self ..)
    have hm : parseMag (c :: r) = parseUint10 0 (c :: r) := by unfold parseMag; rw [if_neg (by simp)]
    simp only [atoiAll]
    rw [if_neg (show ¬ (c.toNat = 43 ∨ c.toNat = 45) by omega), hm]
    have h45 : ¬ c.toNat = 45 := by omega
    rcases parse_digits (c :: r) 0 h (by decide) with ⟨e, h1⟩ | ⟨e, h1⟩
    · rw [e]
      simp only [h45, not_false_eq_true, true_and, false_and, if_false]
      by_cases h2 : valFrom 0 (c :: r) < 9223372036854775808
      · rw [if_neg (by omega), if_pos h2]
      · rw [if_pos (by omega), if_neg h2]
    · rw [e, if_neg (by omega)]
def numOK (l : List UInt8) : Bool := l.all isD && !l.isEmpty && (l.length == 1 || l.head? != some 48)
theorem numOK_iff {l : List UInt8} : numOK l = true ↔ (∀ b ∈ l, isD b = true) ∧ l ≠ [] ∧ (l.length = 1 ∨ l.head? ≠ some 48) := by
  unfold numOK
  simp only [Bool.and_eq_true, Bool.or_eq_true, List.all_eq_true, beq_iff_eq, bne_iff_ne, Bool.not_eq_true', List.isEmpty_eq_false_iff, and_assoc]
theorem mem_trimRight {l cs : List UInt8} {b : UInt8} (hb : b ∈ l) (h : cs.contains b = false) : b ∈ trimRightS l cs := by
  unfold trimRightS
  rw [List.mem_reverse]
  have h1 : b ∈ l.reverse := List.mem_reverse.2 hb
  rw [← List.takeWhile_append_dropWhile (p := (cs.contains ·)) (l := l.reverse)] at h1
  rcases List.mem_append.1 h1 with h2 | h2
  · have := List.all_takeWhile (p := (cs.contains ·)) (l := l.reverse)
    have := List.all_eq_true.1 this b h2
    rw [h] at this
    cases this
  · exact h2
theorem mem_trimLeft {l cs : List UInt8} {b : UInt8} (hb : b ∈ l) (h : cs.contains b = false) : b ∈ trimLeftS l cs := by
  unfold trimLeftS
  have h1 := hb
  rw [← List.takeWhile_append_dropWhile (p := (cs.contains ·)) (l := l)] at h1
  rcases List.mem_append.1 h1 with h2 | h2
  · have := List.all_takeWhile (p := (cs.contains ·)) (l := l)
    have := List.all_eq_true.1 this b h2
    rw [h] at this
    cases this
  · exact h2
theorem dropWhile_nil {α : Type} {p : α → Bool} {l : List α} (h : ∀ b ∈ l, p b = true) : l.dropWhile p = [] := by
  induction l with
  | nil => rfl
  | cons a l ih => rw [List.dropWhile_cons_of_pos (h a (List.mem_cons_self ..)), ih (fun b hb => h b (List.mem_cons_of_mem _ hb))]
theorem trimS_nil (l cs : List UInt8) : trimS l cs = [] ↔ ∀ b ∈ l, cs.contains b = true := by
  constructor
  · intro h b hb
    cases hc : cs.contains b
    · have := mem_trimLeft (mem_trimRight hb hc) hc
      have h' : trimLeftS (trimRightS l cs) cs = [] := h
      rw [h'] at this
      cases this
    · rfl
  · intro h
    have h1 : trimRightS l cs = [] := by
      unfold trimRightS
      rw [dropWhile_nil (fun b hb => h b (List.mem_reverse.1 hb))]
      rfl
    unfold trimS
    rw [h1]
    rfl
def digs : List UInt8 := [48, 49, 50, 51, 52, 53, 54, 55, 56, 57]
theorem digs_iff (b : UInt8) : digs.contains b = isD b := by
  rw [Bool.eq_iff_iff]
  simp only [digs, isD, List.contains_iff_mem, List.mem_cons, List.not_mem_nil, or_false, decide_eq_true_eq]
  constructor
  · rintro (rfl | rfl | rfl | rfl | rfl | rfl | rfl | rfl | rfl | rfl) <;> decide
  · intro h
    have : b.toNat = 48 ∨ b.toNat = 49 ∨ b.toNat = 50 ∨ b.toNat = 51 ∨ b.toNat = 52 ∨ b.toNat = 53 ∨ b.toNat = 54 ∨ b.toNat = 55 ∨ b.toNat = 56 ∨ b.toNat = 57 := by omega
    have e : ∀ c : UInt8, b.toNat = c.toNat → b = c := fun c h => UInt8.toNat_inj.1 h
    rcases this with h | h | h | h | h | h | h | h | h | h
    · exact .inl (e 48 h)
    · exact .inr (.inl (e 49 h))
    · exact .inr (.inr (.inl (e 50 h)))
    · exact .inr (.inr (.inr (.inl (e 51 h))))
    · exact .inr (.inr (.inr (.inr (.inl (e 52 h)))))
    · exact .inr (.inr (.inr (.inr (.inr (.inl (e 53 h))))))
    · exact .inr (.inr (.inr (.inr (.inr (.inr (.inl (e 54 h)))))))
    · exact .inr (.inr (.inr (.inr (.inr (.inr (.inr (.inl (e 55 h))))))))
    · exact .inr (.inr (.inr (.inr (.inr (.inr (.inr (.inr (.inl (e 56 h)))))))))
    · exact .inr (.inr (.inr (.inr (.inr (.inr (.inr (.inr (.inr (e 57 h)))))))))
theorem trim_digs (l : List UInt8) : trimS l digs = [] ↔ ∀ b ∈ l, isD b = true := by
  rw [trimS_nil]
  simp only [digs_iff]
theorem index_sep {a b : UInt8} (x : List UInt8) : ∀ (c : List UInt8), (∀ d ∈ c, d ≠ a) → index (c ++ a :: b :: x) [a, b] = c.length
  | [], _ => by simp [index]
  | d :: c, h => by
    have ih := index_sep (a := a) (b := b) x c (fun e he => h e (List.mem_cons_of_mem _ he))
    have hd := h d (List.mem_cons_self ..)
    have hp : [a, b].isPrefixOf (d :: (c ++ a :: b :: x)) = false := by
      simp only [List.isPrefixOf]
      rw [show (a == d) = false from beq_eq_false_iff_ne.2 (Ne.symm hd)]
      rfl
    simp only [List.cons_append, index]
    rw [hp, ih]
    simp only [Bool.false_eq_true, if_false]
    rw [if_neg (by first | (simp; done) | (simp; omega))]
    simp
theorem cut_sep {a b : UInt8} (c x : List UInt8) (h : ∀ d ∈ c, d ≠ a) : cut (c ++ a :: b :: x) [a, b] = (c, x, true) := by
  unfold cut
  rw [index_sep x c h, if_pos (by omega)]
  simp
theorem prefix_eq {a b : UInt8} {l : List UInt8} (h : [a, b].isPrefixOf l = true) : ∃ x, l = a :: b :: x := by
  match l, h with
  | c :: d :: x, h =>
    simp only [List.isPrefixOf, Bool.and_eq_true, beq_iff_eq] at h
    obtain ⟨rfl, rfl, _⟩ := h
    exact ⟨x, rfl⟩
  | [c], h => simp [List.isPrefixOf] at h
  | [], h => simp [List.isPrefixOf] at h
theorem cut_back {a b : UInt8} {l c x : List UInt8} (h : cut l [a, b] = (c, x, true)) : l = c ++ a :: b :: x := by
  unfold cut at h
  split at h
  next h0 =>
    rcases index_spec l [a, b] with ⟨h1, _⟩ | ⟨i, hi, hl, ho, _⟩
    · rw [h1] at h0; omega
    · rw [hi] at h
      simp only [Int.toNat_natCast, Prod.mk.injEq, and_true] at h
      obtain ⟨x', hx'⟩ := prefix_eq ho
      obtain ⟨h1, h2⟩ := h
      have e : l.drop (i + [a, b].length) = x' := by
        rw [← List.drop_drop, hx']
        rfl
      rw [e] at h2
      subst h2
      rw [← hx', ← h1, List.take_append_drop]
  next => simp at h
theorem suffix_back {l p : List UInt8} (h : hasSuffix l p = true) : l = trimSuffix l p ++ p := by
  unfold trimSuffix
  rw [if_pos h]
  obtain ⟨x, rfl⟩ := List.isSuffixOf_iff_suffix.1 h
  simp
theorem suffix_of (m p : List UInt8) : hasSuffix (m ++ p) p = true ∧ trimSuffix (m ++ p) p = m := by
  have h : hasSuffix (m ++ p) p = true := List.isSuffixOf_iff_suffix.2 ⟨m, rfl⟩
  refine ⟨h, ?_⟩
  unfold trimSuffix
  rw [if_pos h]
  simp
theorem take_digits {l : List UInt8} {b : UInt8} {x : List UInt8} (h : ∀ d ∈ l, isD d = true) (hb : isD b = false) : (l ++ b :: x).takeWhile isD = l ∧ (l ++ b :: x).dropWhile isD = b :: x := by
  induction l with
  | nil => simp [hb]
  | cons a l ih =>
    obtain ⟨h1, h2⟩ := ih (fun d hd => h d (List.mem_cons_of_mem _ hd))
    have ha := h a (List.mem_cons_self ..)
    simp only [List.cons_append, List.takeWhile_cons, List.dropWhile_cons, ha, if_true]
    exact ⟨by rw [h1], h2⟩
def split (l : List UInt8) : Option (List UInt8 × List UInt8) :=
  match l.dropWhile isD with
  | 109 :: 47 :: r => if numOK (l.takeWhile isD) = true ∧ numOK (r.takeWhile isD) = true ∧ r.dropWhile isD = [77, 105] then some (l.takeWhile isD, r.takeWhile isD) else none
  | _ => none
theorem split_some {l c m : List UInt8} : split l = some (c, m) ↔ l = c ++ 109 :: 47 :: (m ++ [77, 105]) ∧ numOK c = true ∧ numOK m = true := by
  constructor
  · intro h
    unfold split at h
    split at h
    next r hr =>
      split at h
      next hc =>
        obtain ⟨h1, h2⟩ := Prod.mk.inj (Option.some.inj h)
        obtain ⟨k1, k2, k3⟩ := hc
        refine ⟨?_, by rw [← h1]; exact k1, by rw [← h2]; exact k2⟩
        rw [← h1, ← h2, ← k3, List.takeWhile_append_dropWhile, ← hr, List.takeWhile_append_dropWhile]
      next => cases h
    next => cases h
  · rintro ⟨rfl, hc, hm⟩
    have h1 := take_digits (l := c) (b := 109) (x := 47 :: (m ++ [77, 105])) (numOK_iff.1 hc).1 (by decide)
    have h2 := take_digits (l := m) (b := 77) (x := [105]) (numOK_iff.1 hm).1 (by decide)
    unfold split
    rw [h1.2, h1.1]
    simp only
    rw [h2.1, h2.2, if_pos ⟨hc, hm, rfl⟩]
theorem split_cut (l : List UInt8) : split l = if (cut l [109, 47]).2.2 && hasSuffix (cut l [109, 47]).2.1 [77, 105] && numOK (cut l [109, 47]).1 && numOK (trimSuffix (cut l [109, 47]).2.1 [77, 105]) then some ((cut l [109, 47]).1, trimSuffix (cut l [109, 47]).2.1 [77, 105]) else none := by
  split
  next h =>
    simp only [Bool.and_eq_true] at h
    obtain ⟨⟨⟨h1, h2⟩, h3⟩, h4⟩ := h
    rw [split_some]
    refine ⟨?_, h3, h4⟩
    have := cut_back (l := l) (c := (cut l [109, 47]).1) (x := (cut l [109, 47]).2.1) (a := 109) (b := 47) (by rw [← h1])
    rw [← suffix_back h2]
    exact this
  next h =>
    cases hs : split l with
    | none => rfl
    | some p =>
      obtain ⟨c, m⟩ := p
      obtain ⟨rfl, hc, hm⟩ := split_some.1 hs
      exfalso
      apply h
      have hd : ∀ d ∈ c, d ≠ 109 := fun d hd e => by
        subst e
        exact absurd ((numOK_iff.1 hc).1 _ hd) (by decide)
      rw [cut_sep c (m ++ [77, 105]) hd]
      simp only [(suffix_of m [77, 105]).1, (suffix_of m [77, 105]).2, hc, hm, Bool.and_self]
theorem digit_of (k : Nat) (h : k < 10) : isD (UInt8.ofNat (48 + k)) = true ∧ (UInt8.ofNat (48 + k)).toNat - 48 = k := by
  have : k = 0 ∨ k = 1 ∨ k = 2 ∨ k = 3 ∨ k = 4 ∨ k = 5 ∨ k = 6 ∨ k = 7 ∨ k = 8 ∨ k = 9 := by omega
  rcases this with rfl | rfl | rfl | rfl | rfl | rfl | rfl | rfl | rfl | rfl <;> decide
theorem dec_all (u : Nat) : ∀ b ∈ decDigits u, isD b = true := by
  induction u using Nat.strongRecOn with
  | _ u ih =>
    by_cases h : u < 10
    · rw [decDigits, dif_pos h]
      intro b hb
      rw [List.mem_singleton.1 hb]
      exact (digit_of u h).1
    · rw [decDigits, dif_neg h]
      intro b hb
      rcases List.mem_append.1 hb with hb | hb
      · exact ih (u / 10) (by omega) b hb
      · rw [List.mem_singleton.1 hb]
        exact (digit_of (u % 10) (Nat.mod_lt _ (by decide))).1
theorem dec_val (u : Nat) : valFrom 0 (decDigits u) = u := by
  induction u using Nat.strongRecOn with
  | _ u ih =>
    by_cases h : u < 10
    · rw [decDigits, dif_pos h, valFrom_cons, (digit_of u h).2]
      simp [valFrom]
    · rw [decDigits, dif_neg h, valFrom_append, ih (u / 10) (by omega), valFrom_cons, (digit_of (u % 10) (Nat.mod_lt _ (by decide))).2]
      show u / 10 * 10 + u % 10 = u
      omega
theorem dec_head (u : Nat) (h0 : 0 < u) : (decDigits u).head? ≠ some 48 := by
  induction u using Nat.strongRecOn with
  | _ u ih =>
    by_cases h : u < 10
    · rw [decDigits, dif_pos h]
      intro e
      have e' : UInt8.ofNat (48 + u) = 48 := by simpa using e
      have := (digit_of u h).2
      rw [e'] at this
      simp at this
      omega
    · rw [decDigits, dif_neg h]
      have h1 := ih (u / 10) (by omega) (by omega)
      have hne : decDigits (u / 10) ≠ [] := by
        intro e
        have := dec_val (u / 10)
        rw [e] at this
        simp [valFrom] at this
        omega
      cases hd : decDigits (u / 10) with
      | nil => exact absurd hd hne
      | cons a r =>
        rw [hd] at h1
        simpa using h1
theorem dec_ne (u : Nat) : decDigits u ≠ [] := by
  by_cases h : u < 10
  · rw [decDigits, dif_pos h]; simp
  · rw [decDigits, dif_neg h]; simp
theorem dec_ok (u : Nat) : numOK (decDigits u) = true := by
  rw [numOK_iff]
  refine ⟨dec_all u, dec_ne u, ?_⟩
  by_cases h : u < 10
  · left
    rw [decDigits, dif_pos h]
    rfl
  · right
    exact dec_head u (by omega)
theorem valFrom_pos {l : List UInt8} (h : ∀ b ∈ l, isD b = true) (hne : l ≠ []) (hh : l.head? ≠ some 48) : 0 < valFrom 0 l := by
  cases l with
  | nil => exact absurd rfl hne
  | cons b l =>
    have hb : 48 ≤ b.toNat ∧ b.toNat ≤ 57 := by simpa [isD] using h b (List.mem_cons_self ..)
    rw [valFrom_cons]
    have hg := valFrom_ge l (0 * 10 + (b.toNat - 48))
    have : b.toNat ≠ 48 := fun e => hh (by rw [List.head?_cons]; congr 1; exact UInt8.toNat_inj.1 e)
    omega
theorem dec_of : ∀ (n : Nat) (l : List UInt8), l.length = n → numOK l = true → decDigits (valFrom 0 l) = l := by
  intro n
  induction n with
  | zero =>
    intro l hl h
    exact absurd (List.length_eq_zero_iff.1 hl) (numOK_iff.1 h).2.1
  | succ n ih =>
    intro l hl h
    obtain ⟨h1, h2, h3⟩ := numOK_iff.1 h
    obtain ⟨m, x, rfl⟩ : ∃ m x, l = m ++ [x] := ⟨l.dropLast, l.getLast h2, (List.dropLast_concat_getLast h2).symm⟩
    have hx : 48 ≤ x.toNat ∧ x.toNat ≤ 57 := by simpa [isD] using h1 x (by simp)
    have hml : m.length = n := by simpa using hl
    rw [valFrom_append]
    have ev : valFrom (valFrom 0 m) [x] = valFrom 0 m * 10 + (x.toNat - 48) := rfl
    rw [ev]
    have eo : UInt8.ofNat (48 + (x.toNat - 48)) = x := by
      rw [show 48 + (x.toNat - 48) = x.toNat by omega]
      exact UInt8.ofNat_toNat
    cases m with
    | nil =>
      show decDigits (0 * 10 + (x.toNat - 48)) = [x]
      rw [decDigits, dif_pos (by omega), show 0 * 10 + (x.toNat - 48) = x.toNat - 48 by omega, eo]
    | cons a r =>
      have hh : (a :: r).head? ≠ some 48 := by
        rcases h3 with h3 | h3
        · simp at h3
        · simpa using h3
      have hm1 : ∀ b ∈ a :: r, isD b = true := fun b hb => h1 b (List.mem_append_left _ hb)
      have hp := valFrom_pos hm1 (by simp) hh
      have hi := ih (a :: r) hml (numOK_iff.2 ⟨hm1, by simp, Or.inr hh⟩)
      rw [decDigits, dif_neg (by omega), show (valFrom 0 (a :: r) * 10 + (x.toNat - 48)) / 10 = valFrom 0 (a :: r) by omega, show (valFrom 0 (a :: r) * 10 + (x.toNat - 48)) % 10 = x.toNat - 48 by omega, hi, eo]
end Go.Proofs.YtcmnbcdimhcdkaaDoor.TxP

/- amount.number: what a row of digits tells. -/
namespace Go.Proofs.YtcmnbcdimhcdkaaDoor
open Go.RowKit Go.Proofs.YtcmnbcdimhcdkaaDoorW.PrintWords Go.Proofs.YtcmnbcdimhcdkaaDoorW.PrintLast
abbrev digB : ByteArray := ⟨#[48, 49, 50, 51, 52, 53, 54, 55, 56, 57]⟩
def numV (l : List UInt8) : Int := if TxP.valFrom 0 l < 9223372036854775808 then (TxP.valFrom 0 l : Int) else 1099511627777
def ErrRangeAt (w : World) : Prop := ∃ tp p, w.var? Tryd.prog "strconv.ErrRange" = some #[.iface tp p]
theorem trim_calls (s : ByteArray) (w : World) (hs : s.size ≤ 281474976710656) :
    Calls Tryd.prog 19 #[.string s, .string digB] w fun e w' => e = .returned (.string ⟨(Lib.trimS s.data.toList TxP.digs).toArray⟩) ∧ Below w.heap.size w w' :=
  Any.strings_Trim_laid Tryd.lays160 (by kernel_rfl) s digB w (by omega) (by decide) (ascii_of_all (by decide))
theorem str_nil (l : List UInt8) : (⟨l.toArray⟩ : ByteArray).toList = l := by rw [Lib.toList_data]
theorem atoi_ok (s : ByteArray) (w : World) (hs : s.size ≤ 281474976710656) (hall : ∀ b ∈ s.data.toList, TxP.isD b = true) (hne : s.data.toList ≠ []) (hv : TxP.valFrom 0 s.data.toList < 9223372036854775808) :
    Calls Tryd.prog 20 #[.string s] w fun e w' => e = .returned (.tuple #[.int .i64 (numV s.data.toList), .nilIface]) ∧ Below w.heap.size w w' := by
  have h := TxP.atoi_digits hall hne
  rw [if_pos hv] at h
  have e : numV s.data.toList = (TxP.valFrom 0 s.data.toList : Int) := if_pos hv
  rw [e]
  refine (Tryd.strconv_Atoi_ok s (by omega) _ h w).mono ?_
  rintro e w' ⟨he, hw⟩
  refine ⟨he, ?_⟩
  rcases hw with rfl | ⟨t, rfl⟩
  · exact Below.refl _ _
  · exact Lib.bytesWorld_below _ _ _
theorem atoi_rg (s : ByteArray) (w : World) (hI : ErrRangeAt w) (hs : s.size ≤ 281474976710656) (hall : ∀ b ∈ s.data.toList, TxP.isD b = true) (hne : s.data.toList ≠ []) (hv : ¬ TxP.valFrom 0 s.data.toList < 9223372036854775808) :
    Calls Tryd.prog 20 #[.string s] w fun e w' => ∃ x N, e = .returned (.tuple #[.int .i64 x, .iface (Tryd.laysC172_ren.t 168) (.pointer (some ⟨N, 0, none⟩))]) ∧ Below w.heap.size w w' := by
  have h := TxP.atoi_digits hall hne
  rw [if_neg hv] at h
  obtain ⟨tp, p, hvar⟩ := hI
  refine (Tryd.strconv_Atoi_range_var s hs h tp p w hvar).mono ?_
  rintro e w' ⟨N, he, _, _, hb⟩
  exact ⟨_, N, he, hb⟩
theorem ErrRangeAt.below {w w1 : World} (h : ErrRangeAt w) (hb : Below w.heap.size w w1) : ErrRangeAt w1 := by
  obtain ⟨tp, p, h⟩ := h
  exact ⟨tp, p, Go.Joins.var_stays (g := 3) (by kernel_rfl) h hb (Nat.le_refl _)⟩
set_option maxHeartbeats 8000000 in
set_option maxRecDepth 100000 in
theorem number_calls (s : ByteArray) (v : Int) (b : Bool) (w : World) (hs : s.size ≤ 281474976710656) (hI : ErrRangeAt w) (hb : b = TxP.numOK s.data.toList) (hv : v = if b = true then numV s.data.toList else 0) :
    Calls Tryd.prog 14 #[.string s] w fun e w' => e = .returned (.tuple #[.int .i64 v, .bool b]) ∧ Below w.heap.size w w' := by
  have HV := Lib.hid (And.intro hb hv)
  have HS := Lib.hid (And.intro hs hI)
  clear hb hv hs hI
  by_cases h0 : s.toList = []
  · have he : s.toList.isEmpty = true := by rw [h0]; rfl
    have e : s.data.toList = [] := by rw [← Lib.toList_data]; exact h0
    obtain rfl : b = false := by rw [HV.out.1, e]; rfl
    obtain rfl : v = 0 := HV.out.2
    go_enter Tryd.func14, Tryd.ntmps14
    go_wp2
    go_ret2
    exact ⟨rfl, Below.refl _ _⟩
  · have he : s.toList.isEmpty = false := List.isEmpty_eq_false_iff.2 h0
    have hd0 : s.data.toList ≠ [] := by rw [← Lib.toList_data]; exact h0
    obtain ⟨r, hr⟩ : ∃ r : ByteArray, r = ⟨(Lib.trimS s.data.toList TxP.digs).toArray⟩ := ⟨_, rfl⟩
    have QT := Lib.hid (fun W => trim_calls s W HS.out.1)
    rw [← hr] at QT
    have hrl : r.toList = Lib.trimS s.data.toList TxP.digs := by rw [hr, str_nil]
    clear hr
    by_cases ha : Lib.trimS s.data.toList TxP.digs = []
    · have hall := (TxP.trim_digs _).1 ha
      have hr0 : r.toList = [] := hrl.trans ha
      have hre : r.toList.isEmpty = true := by rw [hr0]; rfl
      by_cases h1 : s.size = 1
      · have hl1 : s.data.toList.length = 1 := by rw [← Lib.size_eq]; exact h1
        have hsz : (s.size : Int) = 1 := by omega
        have g1 : ¬ ((1 : Int) < (s.size : Int)) := by omega
        obtain rfl : b = true := by
          rw [HV.out.1, TxP.numOK_iff]
          exact ⟨hall, hd0, Or.inl hl1⟩
        have hvv : v = numV s.data.toList := HV.out.2
        by_cases hv : TxP.valFrom 0 s.data.toList < 9223372036854775808
        · have QA := Lib.hid (fun W => atoi_ok s W HS.out.1 hall hd0 hv)
          subst hvv
          clear hall hd0 hv hrl ha
          go_enter Tryd.func14, Tryd.ntmps14
          go_wp2_with (first
            | (go_at_call 19; (with_reducible refine (QT.out _).mono ?_); rintro e w1 ⟨rfl, hb1⟩)
            | (go_at_call 20; (with_reducible refine (QA.out _).mono ?_); rintro e w2 ⟨rfl, hb2⟩))
          go_ret2
          exact ⟨rfl, hb1.trans (hb2.mono hb1.size)⟩
        · have QA := Lib.hid (fun W hI => atoi_rg s W hI HS.out.1 hall hd0 hv)
          obtain rfl : v = 1099511627777 := by rw [hvv]; exact if_neg hv
          clear hall hd0 hv hrl ha hvv
          go_enter Tryd.func14, Tryd.ntmps14
          go_wp2_with (first
            | (go_at_call 19; (with_reducible refine (QT.out _).mono ?_); rintro e w1 ⟨rfl, hb1⟩)
            | (go_at_call 20; (with_reducible refine (QA.out _ (HS.out.2.below hb1)).mono ?_); rintro e w2 ⟨x, N, rfl, hb2⟩))
          go_ret2
          exact ⟨rfl, hb1.trans (hb2.mono hb1.size)⟩
      · have g1 : ((1 : Int) < (s.size : Int)) := by
          have : 0 < s.data.toList.length := List.length_pos_iff.2 hd0
          rw [← Lib.size_eq] at this
          omega
        have hp : 0 < s.size := by omega
        have hh : s.data.toList.head? = some (s[0]'hp) := by
          obtain ⟨⟨d⟩⟩ := s
          cases d with
          | nil => exact absurd rfl hd0
          | cons x d => rfl
        have hl1 : s.data.toList.length ≠ 1 := by rw [← Lib.size_eq]; omega
        by_cases hz : s[0]'hp = 48
        · have g2 : ((((s[0]'hp).toNat : Nat) : Int) == 48) = true := by rw [hz]; rfl
          obtain rfl : b = false := by
            rw [HV.out.1, Bool.eq_false_iff]
            intro h
            rcases (TxP.numOK_iff.1 h).2.2 with h | h
            · exact hl1 h
            · exact h (by rw [hh, hz])
          obtain rfl : v = 0 := HV.out.2
          clear hall hd0 hrl ha hh hz hl1
          go_enter Tryd.func14, Tryd.ntmps14
          go_wp2_with (first
            | (go_at_call 19; (with_reducible refine (QT.out _).mono ?_); rintro e w1 ⟨rfl, hb1⟩))
          go_ret2
          exact ⟨rfl, hb1⟩
        · have g2 : ((((s[0]'hp).toNat : Nat) : Int) == 48) = false := by
            rw [beq_eq_false_iff_ne]
            intro e
            exact hz (UInt8.toNat_inj.1 (by have : (s[0]'hp).toNat = 48 := by omega
                                            rw [this]; rfl))
          obtain rfl : b = true := by
            rw [HV.out.1, TxP.numOK_iff]
            exact ⟨hall, hd0, Or.inr (by rw [hh]; intro e; exact hz (Option.some.inj e))⟩
          have hvv : v = numV s.data.toList := HV.out.2
          clear hh hz hl1
          by_cases hv : TxP.valFrom 0 s.data.toList < 9223372036854775808
          · have QA := Lib.hid (fun W => atoi_ok s W HS.out.1 hall hd0 hv)
            subst hvv
            clear hall hd0 hv hrl ha
            go_enter Tryd.func14, Tryd.ntmps14
            go_wp2_with (first
              | (go_at_call 19; (with_reducible refine (QT.out _).mono ?_); rintro e w1 ⟨rfl, hb1⟩)
              | (go_at_call 20; (with_reducible refine (QA.out _).mono ?_); rintro e w2 ⟨rfl, hb2⟩))
            go_ret2
            exact ⟨rfl, hb1.trans (hb2.mono hb1.size)⟩
          · have QA := Lib.hid (fun W hI => atoi_rg s W hI HS.out.1 hall hd0 hv)
            obtain rfl : v = 1099511627777 := by rw [hvv]; exact if_neg hv
            clear hall hd0 hv hrl ha hvv
            go_enter Tryd.func14, Tryd.ntmps14
            go_wp2_with (first
              | (go_at_call 19; (with_reducible refine (QT.out _).mono ?_); rintro e w1 ⟨rfl, hb1⟩)
              | (go_at_call 20; (with_reducible refine (QA.out _ (HS.out.2.below hb1)).mono ?_); rintro e w2 ⟨x, N, rfl, hb2⟩))
            go_ret2
            exact ⟨rfl, hb1.trans (hb2.mono hb1.size)⟩
    · have hr0 : r.toList ≠ [] := fun e => ha (hrl.symm.trans e)
      have hre : r.toList.isEmpty = false := List.isEmpty_eq_false_iff.2 hr0
      obtain rfl : b = false := by
        rw [HV.out.1, Bool.eq_false_iff]
        intro h
        exact ha ((TxP.trim_digs _).2 (TxP.numOK_iff.1 h).1)
      obtain rfl : v = 0 := HV.out.2
      go_enter Tryd.func14, Tryd.ntmps14
      go_wp2_with (first
        | (go_at_call 19; (with_reducible refine (QT.out _).mono ?_); rintro e w1 ⟨rfl, hb1⟩))
      go_ret2
      exact ⟨rfl, hb1⟩
end Go.Proofs.YtcmnbcdimhcdkaaDoor

/- What amounts' texts need of the world: four package-level variables; strings.Cut, strings.CutSuffix. -/
namespace Go.Proofs.YtcmnbcdimhcdkaaDoor
open Go.RowKit Go.Proofs.YtcmnbcdimhcdkaaDoorW.PrintWords Go.Proofs.YtcmnbcdimhcdkaaDoorW.PrintLast
def MaxLenAt (w : World) : Prop := ∃ m, w.cell? ⟨0, 0, none⟩ = some (.int .i64 m)
theorem MaxLenAt.below {w w1 : World} (h : MaxLenAt w) (hb : Below w.heap.size w w1) : MaxLenAt w1 := by
  obtain ⟨m, h⟩ := h
  have hlt : 0 < w.heap.size := by
    rcases Nat.lt_or_ge 0 w.heap.size with h1 | h1
    · exact h1
    · simp [World.cell?, Array.getElem?_eq_none h1] at h
  exact ⟨m, by rw [hb.cell (p := ⟨0, 0, none⟩) hlt]; exact h⟩
structure AmtAt (w : World) : Prop where
  pw : Pow10At w
  ml : MaxLenAt w
  rg : ErrRangeAt w
theorem AmtAt.below {w w1 : World} (h : AmtAt w) (hb : Below w.heap.size w w1) : AmtAt w1 := ⟨h.pw.below hb, h.ml.below hb, h.rg.below hb⟩
def cutF (s p : ByteArray) : Option (ByteArray × ByteArray × Bool) := if s.size ≤ 4000000000 then some (⟨(Lib.cut s.data.toList p.data.toList).1.toArray⟩, ⟨(Lib.cut s.data.toList p.data.toList).2.1.toArray⟩, (Lib.cut s.data.toList p.data.toList).2.2) else none
theorem cut_calls (s p r1 r2 : ByteArray) (r3 : Bool) (w : World) (h : cutF s p = some (r1, r2, r3)) (hI : MaxLenAt w) :
    Calls Tryd.prog 12 #[.string s, .string p] w fun e w' => e = .returned (.tuple #[.string r1, .string r2, .bool r3]) ∧ Below w.heap.size w w' := by
  unfold cutF at h
  split at h
  next hs =>
    simp only [Option.some.injEq, Prod.mk.injEq] at h
    obtain ⟨rfl, rfl, rfl⟩ := h
    obtain ⟨m, hm⟩ := hI
    refine (Tryd.strings_Cut s p m w (by omega) hm).mono ?_
    rintro e w' ⟨he, n, rfl⟩
    exact ⟨he, pw_below_drewN (Below.refl _ _) n⟩
  next => cases h
def sufF (s p : ByteArray) : Option (ByteArray × Bool) := if s.size ≤ 9223372036854775807 then some (⟨(Lib.trimSuffix s.data.toList p.data.toList).toArray⟩, Lib.hasSuffix s.data.toList p.data.toList) else none
theorem suf_calls (s p r1 : ByteArray) (r2 : Bool) (w : World) (h : sufF s p = some (r1, r2)) :
    Calls Tryd.prog 13 #[.string s, .string p] w fun e w' => e = .returned (.tuple #[.string r1, .bool r2]) ∧ Below w.heap.size w w' := by
  unfold sufF at h
  split at h
  next hs =>
    simp only [Option.some.injEq, Prod.mk.injEq] at h
    obtain ⟨rfl, rfl⟩ := h
    refine (Tryd.strings_CutSuffix s p w hs).mono ?_
    rintro e w' ⟨he, rfl⟩
    exact ⟨he, Below.refl _ _⟩
  next => cases h
def numberF (s : ByteArray) : Option (Int × Bool) := if s.size ≤ 4000000000 then some (if TxP.numOK s.data.toList = true then numV s.data.toList else 0, TxP.numOK s.data.toList) else none
theorem numberF_calls (s : ByteArray) (r1 : Int) (r2 : Bool) (w : World) (h : numberF s = some (r1, r2)) (hI : ErrRangeAt w) :
    Calls Tryd.prog 14 #[.string s] w fun e w' => e = .returned (.tuple #[.int .i64 r1, .bool r2]) ∧ Below w.heap.size w w' := by
  unfold numberF at h
  split at h
  next hs =>
    simp only [Option.some.injEq, Prod.mk.injEq] at h
    obtain ⟨rfl, rfl⟩ := h
    exact number_calls s _ _ w (by omega) hI rfl rfl
  next => cases h
end Go.Proofs.YtcmnbcdimhcdkaaDoor

-- WRITTEN BY myprint.py, a program of this seat's prover, over the kit's printer, some functions' contracts given by hand: no output of print.sh
namespace Go.Proofs.YtcmnbcdimhcdkaaDoor.QThere
open Go.Proofs.YtcmnbcdimhcdkaaDoor
open Go.RowKit Go.Proofs.YtcmnbcdimhcdkaaDoorW.PrintWords Go.Proofs.YtcmnbcdimhcdkaaDoorW.PrintLast Go.Proofs.YtcmnbcdimhcdkaaDoorW.PrintMore
attribute [local go_sem] max2_int min2_int max_two min_two max_three min_three max_four min_four   -- for this text's walks alone
def errW : Option Int → Value
  | none => .nilIface
  | some c => .iface (errT c) (errV c)
theorem errW_none : errW none = .nilIface := rfl
theorem errW_some (c : Int) : errW (some c) = .iface (errT c) (errV c) := rfl
theorem errW_O (a : Option Int) : errW a = errO a := by cases a <;> rfl
-- the values' own types
structure S23 where
  f0 : Int
  f1 : Int
def z23 : S23 := ⟨(0 : Int), (0 : Int)⟩
def k23 : Kd S23 := Kd.iso (Kd.pair (Kd.int .i64) (Kd.int .i64)) (fun x : S23 => (x.f0, x.f1))
theorem k23_open {w : World} {x : S23} {cs : List Value} (h : k23.K w x cs) : cs = [.int .i64 x.f0, .int .i64 x.f1] := by
  obtain ⟨_, _, rfl, rfl, rfl⟩ := h
  exact rfl
theorem k23_mkM (w : World) (base : Nat) (ok : Nat → Prop) (x : S23)  : k23.M w base ok x [.int .i64 x.f0, .int .i64 x.f1] := ⟨[.int .i64 x.f0], [.int .i64 x.f1], rfl, rfl, rfl⟩
def rd_T23 (xs : List S23) (i : Int) : S23 := xs.getD i.toNat z23
theorem at_T23 {w : World} {A : Option Addr} {n : Nat} {xs : List S23} (h : Kd.C k23 w A n xs) (i : Int) (h0 : 0 ≤ i) (h1 : i < n) : ∃ ad , A = some ad ∧ w.cell? (ad.add (i.toNat * 2)) = some (.int .i64 (rd_T23 xs i).f0) ∧ w.cell? ⟨(ad.add (i.toNat * 2)).block, (ad.add (i.toNat * 2)).off + 1, none⟩ = some (.int .i64 (rd_T23 xs i).f1) := by
  obtain ⟨ad, c, e, _, hK, hc0⟩ := Kd.C_get h z23 i h0 h1
  have hc : ∀ j u, c[j]? = some u → w.cell? (ad.add (i.toNat * 2 + j)) = some u := hc0
  obtain rfl := k23_open hK
  exact ⟨ad, e, hc 0 _ rfl, by rw [← add_field _ _ 1 (by omega)]; exact hc 1 _ rfl⟩
def rd_L2 (xs : List (List S23)) (i : Int) : (List S23) := xs.getD i.toNat ([] : List S23)
end Go.Proofs.YtcmnbcdimhcdkaaDoor.QThere

-- WRITTEN BY myprint.py, a program of this seat's prover, over the kit's printer, some functions' contracts given by hand: no output of print.sh
namespace Go.Proofs.YtcmnbcdimhcdkaaDoor.QThere
open Go.Proofs.YtcmnbcdimhcdkaaDoor
open Go.RowKit Go.Proofs.YtcmnbcdimhcdkaaDoorW.PrintWords Go.Proofs.YtcmnbcdimhcdkaaDoorW.PrintLast Go.Proofs.YtcmnbcdimhcdkaaDoorW.PrintMore
attribute [local go_sem] max2_int min2_int max_two min_two max_three min_three max_four min_four   -- for this text's walks alone
theorem eqA23 (d : Nat) (w : World) (x0 y0 : Int) (x1 y1 : Int) :
    (Op.equalIn (d + 2) 23 (.agg #[.int .i64 x0, .int .i64 x1]) (.agg #[.int .i64 y0, .int .i64 y1])).run Tryd.prog w = .ok (x0 == y0 && (x1 == y1)) w := by
  refine eqA_of Tryd.underlying23 (by kernel_rfl) ?_
  refine eqf_cons (by rfl) (by go_simp; rfl) (by go_simp; rfl) (by go_simp) ?_
  exact eqf_last (by rfl) (by go_simp; rfl) (by go_simp; rfl) (by go_simp)
end Go.Proofs.YtcmnbcdimhcdkaaDoor.QThere

-- WRITTEN BY myprint.py, a program of this seat's prover, over the kit's printer, some functions' contracts given by hand: no output of print.sh
namespace Go.Proofs.YtcmnbcdimhcdkaaDoor.QThere
open Go.Proofs.YtcmnbcdimhcdkaaDoor
open Go.RowKit Go.Proofs.YtcmnbcdimhcdkaaDoorW.PrintWords Go.Proofs.YtcmnbcdimhcdkaaDoorW.PrintLast Go.Proofs.YtcmnbcdimhcdkaaDoorW.PrintMore
attribute [local go_sem] max2_int min2_int max_two min_two max_three min_three max_four min_four   -- for this text's walks alone
def amount_check.f (l0 : List S23) : Option (Option Int) := if l0.length ≤ 9223372036854775807 then checkO (l0.map fun p => (p.f0, p.f1)) else none
theorem amount_check.calls (A0 : Option Addr) (c0 : Nat) (l0 : List S23) (r : Option Int) (w : World) (hr0 : Kd.C k23 w A0 l0.length l0) (hc0 : l0.length ≤ c0) (h : amount_check.f l0 = some r) :
    Calls Tryd.prog 10 #[.slice A0 l0.length c0] w fun e w' => e = .returned (errW r) ∧ Below w.heap.size w w' := by
  unfold amount_check.f at h
  split at h
  next hl =>
    rw [errW_O, ← checkO_first _ _ h]
    rcases Nat.eq_zero_or_pos l0.length with h0 | h0
    · obtain rfl := List.length_eq_zero_iff.1 h0
      exact check_nil c0 A0 w
    · obtain ⟨ad, rfl, _⟩ := hr0.2.2 h0
      have key : ∀ j p, (l0.map fun p => (p.f0, p.f1))[j]? = some p → w.cell? (ad.add (j * 2)) = some (.int .i64 p.1) ∧ w.cell? ⟨(ad.add (j * 2)).block, (ad.add (j * 2)).off + 1, none⟩ = some (.int .i64 p.2) := by
        intro j p hj
        rw [List.getElem?_map, Option.map_eq_some_iff] at hj
        obtain ⟨q, hq, rfl⟩ := hj
        obtain ⟨ad', e, h1, h2⟩ := at_T23 hr0 (j : Int) (by omega) (by have := (List.getElem?_eq_some_iff.1 hq).1; omega)
        cases e
        have hrd : rd_T23 l0 (j : Int) = q := by simp [rd_T23, List.getD_eq_getElem?_getD, hq]
        rw [hrd, Int.toNat_natCast] at h1 h2
        exact ⟨h1, h2⟩
      have := check_a (l0.map fun p => (p.f0, p.f1)) ad c0 w (by simpa using hl) (fun j p hj => (key j p hj).1) (fun j p hj => (key j p hj).2)
      rw [List.length_map] at this
      exact this
  next => cases h
def strconv_Itoa.f (a0 : Int) : Option ByteArray := itoaF a0
theorem strconv_Itoa.calls (a0 : Int) (r : ByteArray) (w : World) (h : strconv_Itoa.f a0 = some r) (hInv : AmtAt w) :
    Calls Tryd.prog 11 #[.int .i64 a0] w fun e w' => e = .returned (.string r) ∧ Below w.heap.size w w' := itoa_calls a0 r w h hInv.pw
def amount_Print.f (a0_0 : Int) (a0_1 : Int) : Option (ByteArray × Option Int) := (amount_check.f (([(⟨a0_0, a0_1⟩ : S23)] : List (S23)))).bind fun t105 => (if t105.isNone = true then ((strconv_Itoa.f a0_0).bind fun t107 => (if t107.size + 2 ≤ 9223372036854775807 then ((strconv_Itoa.f a0_1).bind fun t108 => (if (t107 ++ (⟨#[109, 47]⟩ : ByteArray)).size + t108.size ≤ 9223372036854775807 then (if ((t107 ++ (⟨#[109, 47]⟩ : ByteArray)) ++ t108).size + 2 ≤ 9223372036854775807 then (some (((t107 ++ (⟨#[109, 47]⟩ : ByteArray)) ++ t108) ++ (⟨#[77, 105]⟩ : ByteArray), none)) else (none)) else (none))) else (none))) else (some ((⟨#[]⟩ : ByteArray), some (t105.getD 0))))
def amount_Print.T4 : Bool × List (List Nat × List Nat) := (true, [([], []), ([0], [0]), ([1], [1]), ([2], [2]), ([], []), ([4], [4]), ([5, 2], [5]), ([3, 6], [3, 6]), ([7], [7]), ([8, 6, 0, 1, 2, 3, 4, 5, 6, 7, 8], [8]), ([9, 0, 1, 2, 3, 4, 5, 6, 7, 8, 9], [])])
def amount_Print.B4 : List Nat := [0, 1, 3, 7, 0, 16, 55, 127, 255, 511, 1023]
theorem amount_Print.tab4 : rtab .any (opsOf Tryd.f5 4) = amount_Print.T4 := by kernel_rfl
theorem amount_Print.bits4 : waitsOk amount_Print.T4.2 amount_Print.B4 = true := by kernel_rfl
set_option maxHeartbeats 8000000 in
set_option maxRecDepth 100000 in
theorem amount_Print.calls (a0_0 : Int) (a0_1 : Int) (r1 : ByteArray) (r2 : Option Int) (w : World) (hInv : AmtAt w) (h : amount_Print.f a0_0 a0_1 = some (r1, r2)) :
    Calls Tryd.prog 5 #[.agg #[.int .i64 a0_0, .int .i64 a0_1]] w fun e w' => e = .returned (.tuple #[.string r1, errW r2]) ∧ Below w.heap.size w w' := by
  have hu23 := Tryd.underlying23
  have hu26 := Tryd.underlying26
  have HB := Aside0.mk (Below.refl w.heap.size w)
  have H : ((amount_check.f (([(⟨a0_0, a0_1⟩ : S23)] : List (S23)))).bind fun t105 => (if t105.isNone = true then ((strconv_Itoa.f a0_0).bind fun t107 => (if t107.size + 2 ≤ 9223372036854775807 then ((strconv_Itoa.f a0_1).bind fun t108 => (if (t107 ++ (⟨#[109, 47]⟩ : ByteArray)).size + t108.size ≤ 9223372036854775807 then (if ((t107 ++ (⟨#[109, 47]⟩ : ByteArray)) ++ t108).size + 2 ≤ 9223372036854775807 then (some (((t107 ++ (⟨#[109, 47]⟩ : ByteArray)) ++ t108) ++ (⟨#[77, 105]⟩ : ByteArray), none)) else (none)) else (none))) else (none))) else (some ((⟨#[]⟩ : ByteArray), some (t105.getD 0))))) = some (r1, r2) := h
  clear h
  obtain ⟨y102, hy102⟩ : ∃ y_ : List (S23), y_ = (([(⟨a0_0, a0_1⟩ : S23)] : List (S23))) := ⟨_, rfl⟩
  replace H : ((amount_check.f y102).bind fun t105 => (if t105.isNone = true then ((strconv_Itoa.f a0_0).bind fun t107 => (if t107.size + 2 ≤ 9223372036854775807 then ((strconv_Itoa.f a0_1).bind fun t108 => (if (t107 ++ (⟨#[109, 47]⟩ : ByteArray)).size + t108.size ≤ 9223372036854775807 then (if ((t107 ++ (⟨#[109, 47]⟩ : ByteArray)) ++ t108).size + 2 ≤ 9223372036854775807 then (some (((t107 ++ (⟨#[109, 47]⟩ : ByteArray)) ++ t108) ++ (⟨#[77, 105]⟩ : ByteArray), none)) else (none)) else (none))) else (none))) else (some ((⟨#[]⟩ : ByteArray), some (t105.getD 0))))) = some (r1, r2) := by first | (rw [hy102]; with_reducible exact H) | (have H2_ := (Option.bind_some _ _).symm.trans H; rw [hy102]; with_reducible exact H2_) | (have H2_ := (Option.bind_some _ _).symm.trans H; with_reducible exact H2_) | with_reducible exact H | (rw [hy102]; exact H) | exact H
  have Ny102 := Aside0.mk hy102
  clear hy102
  replace H := Option.bind_eq_some_iff.mp H
  obtain ⟨t105, A20, H⟩ := H
  replace H : (if t105.isNone = true then ((strconv_Itoa.f a0_0).bind fun t107 => (if t107.size + 2 ≤ 9223372036854775807 then ((strconv_Itoa.f a0_1).bind fun t108 => (if (t107 ++ (⟨#[109, 47]⟩ : ByteArray)).size + t108.size ≤ 9223372036854775807 then (if ((t107 ++ (⟨#[109, 47]⟩ : ByteArray)) ++ t108).size + 2 ≤ 9223372036854775807 then (some (((t107 ++ (⟨#[109, 47]⟩ : ByteArray)) ++ t108) ++ (⟨#[77, 105]⟩ : ByteArray), none)) else (none)) else (none))) else (none))) else (some ((⟨#[]⟩ : ByteArray), some (t105.getD 0)))) = some (r1, r2) := H
  have A2 := Aside0.mk A20
  clear A20
  rcases t105 with _ | q106
  · have H1 : ((strconv_Itoa.f a0_0).bind fun t107 => (if t107.size + 2 ≤ 9223372036854775807 then ((strconv_Itoa.f a0_1).bind fun t108 => (if (t107 ++ (⟨#[109, 47]⟩ : ByteArray)).size + t108.size ≤ 9223372036854775807 then (if ((t107 ++ (⟨#[109, 47]⟩ : ByteArray)) ++ t108).size + 2 ≤ 9223372036854775807 then (some (((t107 ++ (⟨#[109, 47]⟩ : ByteArray)) ++ t108) ++ (⟨#[77, 105]⟩ : ByteArray), none)) else (none)) else (none))) else (none))) = some (r1, r2) := by rw [if_pos (show (none : Option Int).isNone = true by rfl)] at H; exact H
    clear H
    have H := H1
    clear H1
    try simp only [errW_none, errW_some]
    replace H := Option.bind_eq_some_iff.mp H
    obtain ⟨t107, A30, H⟩ := H
    replace H : (if t107.size + 2 ≤ 9223372036854775807 then ((strconv_Itoa.f a0_1).bind fun t108 => (if (t107 ++ (⟨#[109, 47]⟩ : ByteArray)).size + t108.size ≤ 9223372036854775807 then (if ((t107 ++ (⟨#[109, 47]⟩ : ByteArray)) ++ t108).size + 2 ≤ 9223372036854775807 then (some (((t107 ++ (⟨#[109, 47]⟩ : ByteArray)) ++ t108) ++ (⟨#[77, 105]⟩ : ByteArray), none)) else (none)) else (none))) else (none)) = some (r1, r2) := H
    have A3 := Aside0.mk A30
    clear A30
    by_cases c4 : t107.size + 2 ≤ 9223372036854775807
    · rw [if_pos c4] at H
      have c4b0 := eq_true c4
      have c4b1 : decide (t107.size + 2 ≤ 9223372036854775807) = true := decide_eq_true c4
      try have c4b2 : (9223372036854775807 < t107.size + 2) = False := eq_false (Nat.not_lt.2 c4)
      replace H := Option.bind_eq_some_iff.mp H
      obtain ⟨t108, A50, H⟩ := H
      replace H : (if (t107 ++ (⟨#[109, 47]⟩ : ByteArray)).size + t108.size ≤ 9223372036854775807 then (if ((t107 ++ (⟨#[109, 47]⟩ : ByteArray)) ++ t108).size + 2 ≤ 9223372036854775807 then (some (((t107 ++ (⟨#[109, 47]⟩ : ByteArray)) ++ t108) ++ (⟨#[77, 105]⟩ : ByteArray), none)) else (none)) else (none)) = some (r1, r2) := H
      have A5 := Aside0.mk A50
      clear A50
      by_cases c6 : (t107 ++ (⟨#[109, 47]⟩ : ByteArray)).size + t108.size ≤ 9223372036854775807
      · rw [if_pos c6] at H
        have c6b0 := eq_true c6
        have c6b1 : decide ((t107 ++ (⟨#[109, 47]⟩ : ByteArray)).size + t108.size ≤ 9223372036854775807) = true := decide_eq_true c6
        try have c6b2 : (9223372036854775807 < (t107 ++ (⟨#[109, 47]⟩ : ByteArray)).size + t108.size) = False := eq_false (Nat.not_lt.2 c6)
        have c6b9 := c6b2
        (try simp only [ByteArray.size_append, show (⟨#[109, 47]⟩ : ByteArray).size = 2 from rfl] at c6b9)
        by_cases c7 : ((t107 ++ (⟨#[109, 47]⟩ : ByteArray)) ++ t108).size + 2 ≤ 9223372036854775807
        · rw [if_pos c7] at H
          have c7b0 := eq_true c7
          have c7b1 : decide (((t107 ++ (⟨#[109, 47]⟩ : ByteArray)) ++ t108).size + 2 ≤ 9223372036854775807) = true := decide_eq_true c7
          try have c7b2 : (9223372036854775807 < ((t107 ++ (⟨#[109, 47]⟩ : ByteArray)) ++ t108).size + 2) = False := eq_false (Nat.not_lt.2 c7)
          have c7b9 := c7b2
          (try simp only [ByteArray.size_append, show (⟨#[109, 47]⟩ : ByteArray).size = 2 from rfl] at c7b9)
          simp only [Option.some.injEq, Prod.mk.injEq] at H
          obtain ⟨rfl, rfl⟩ := H
          go_enter Tryd.func5, Tryd.ntmps5
          try go_wp2_with (first | ((with_reducible refine gate_dst (N := 1) rfl ?_); refine box_event ?hg (N := 1) ?hd (cs := #[.int .i64 a0_0, .int .i64 a0_1]) (t := 23) ?hr ?_; (case hd => rfl); (case hg => rfl); (case hr => first | (go_simp; done) | (go_simp; rfl)); intro gb101 hg w8 hbox hb; have n0_ := Aside0.mk (below_step (by repeat (first | (with_reducible first | exact HB.out | apply below_alloc | apply pw_below_drewN | apply below_drew1) | exact HB.out)) hb); have n1_ := Aside0.mk (hbox); have n2_ := Aside0.mk ((by rw [hg]; exact (below_size (by repeat (first | (with_reducible first | exact HB.out | apply below_alloc | apply pw_below_drewN | apply below_drew1) | exact HB.out))) : w.heap.size ≤ gb101)); have n3_ := Aside0.mk ((by rw [hg]; exact (below_size (by repeat (first | (with_reducible first | exact HB.out | apply below_alloc | apply pw_below_drewN | apply below_drew1) | exact HB.out))) : w.heap.size ≤ gb101)); clear HB; have HB := n0_; have BK101 := n1_; have GW101 := n2_; have GE101 := n3_; clear n0_ n1_ n2_ n3_; clear hb hbox hg; have hcz9_0 : w8.cell? ⟨gb101, 0, none⟩ = some (.int .i64 a0_0) := (blk_cell BK101.out 0).trans rfl; have hcz9_1 : w8.cell? ⟨gb101, 1, none⟩ = some (.int .i64 a0_1) := (blk_cell BK101.out 1).trans rfl; have hfz9_0 := blk_frozen BK101.out 0; have hfz9_1 := blk_frozen BK101.out 1) | ((with_reducible refine gate_dst (N := 6) rfl ?_); refine Kd.R_lit k23 _ 23 ?hg (N := 6) ?hd (xs := ([(⟨a0_0, a0_1⟩ : S23)] : List (S23))) (inner := [.int .i64 a0_0, .int .i64 a0_1]) (ok := fun _ => True) (okp := fun _ => True) ?hr ?hp (fun _ hk => hk) trivial (Below.refl _ _) (Nat.le_refl _) (by simp) ?_; (case hd => rfl); (case hg => rfl); (case hr => first | (go_simp; done) | (go_simp; rfl)); (case hp => exact (Reps.c2 (show Kd.M k23 _ _ _ (⟨a0_0, a0_1⟩ : S23) [.int .i64 a0_0, .int .i64 a0_1] from (k23_mkM _ _ _ (⟨a0_0, a0_1⟩ : S23) )) (Reps.none _ _))); intro v103 w10 ho11 hb hg_ hnew_; clear hg_ hnew_; (first | rw [← Ny102.out] at ho11 | (simp only [Int.reduceToNat] at ho11; rw [← Ny102.out] at ho11)); have n0_ := Aside0.mk (Kd.R_lower (Kd.R_newB ho11 (g := gb101) (o := .cells #[.int .i64 a0_0, .int .i64 a0_1] 23 (0, 0)) (by (with_reducible repeat (first | refine blk_drewN ?_ _ | refine blk_drew ?_ | refine blk_alloc ?_ _)); exact BK101.out)) (below_size (by repeat (first | (with_reducible first | exact HB.out | apply below_alloc | apply pw_below_drewN | apply below_drew1 | refine below_set ?_ GE101.out) | exact HB.out)))); have n1_ := Aside0.mk (blk_below (g := gb101) (o := .cells #[.int .i64 a0_0, .int .i64 a0_1] 23 (0, 0)) (by (with_reducible repeat (first | refine blk_drewN ?_ _ | refine blk_drew ?_ | refine blk_alloc ?_ _)); exact BK101.out) hb); have n2_ := Aside0.mk (below_step (by repeat (first | (with_reducible first | exact HB.out | apply below_alloc | apply pw_below_drewN | apply below_drew1 | refine below_set ?_ GE101.out) | exact HB.out)) hb); clear BK101; clear HB; have HO104 := n0_; have BK101 := n1_; have HB := n2_; clear n0_ n1_ n2_; clear hb ho11; obtain ⟨Ao12, co12, eo12⟩ := Kd.R_slice HO104.out; subst eo12) | ((with_reducible refine gate_callee (f := 10) rfl ?_); refine goesL_ (some 7) rfl rfl Tryd.func10 (by kernel_rfl) rfl #[.slice Ao12 y102.length co12] rfl (by (try simp only [List.map_toArray, List.map_cons, List.map_nil]); first | done | rfl | (simp only [List.length_drop, List.length_take]; rfl)) ?_; (with_reducible refine (amount_check.calls _ _ y102 none _ ?side1 ?side2 A2.out).mono ?_); (case side1 => repeat (first | exact (Kd.R_reads' HO104.out).2.2 | (with_reducible refine Kd.C_alloc ?_ _) | (with_reducible refine Kd.C_drewN ?_ _) | (with_reducible refine Kd.C_drew ?_))); (case side2 => exact (Kd.R_reads' HO104.out).2.1); rintro e w13 ⟨rfl, hb⟩; refine ⟨_, rfl, ?_⟩; have n0_ := Aside0.mk (Kd.R_below (by (with_reducible repeat (first | apply Kd.R_alloc | apply Kd.R_drewN | apply Kd.R_drew)); exact HO104.out) hb); have n1_ := Aside0.mk (blk_below (g := gb101) (o := .cells #[.int .i64 a0_0, .int .i64 a0_1] 23 (0, 0)) (by (with_reducible repeat (first | refine blk_drewN ?_ _ | refine blk_drew ?_ | refine blk_alloc ?_ _)); exact BK101.out) hb); have n2_ := Aside0.mk (below_step (by repeat (first | (with_reducible first | exact HB.out | apply below_alloc | apply pw_below_drewN | apply below_drew1 | refine below_set ?_ GE101.out) | exact HB.out)) hb); clear HO104; clear BK101; clear HB; have HO104 := n0_; have BK101 := n1_; have HB := n2_; clear n0_ n1_ n2_; (try clear hb); (try clear hb2); (try clear hk); (try clear hi); (try simp only [errW_none, errW_some])))
          have n0_ := Aside0.mk (Kd.R_drew HO104.out)
          have n1_ := Aside0.mk (blk_drew BK101.out)
          have n2_ := Aside0.mk (below_drew1 HB.out)
          clear HO104
          clear BK101
          clear HB
          have HO104 := n0_
          have BK101 := n1_
          have HB := n2_
          clear n0_ n1_ n2_
          refine start_ (n := 11) (S := fun w' => w'.cell? ⟨gb101, 0, none⟩ = some (.int .i64 a0_0) ∧ w'.cell? ⟨gb101, 1, none⟩ = some (.int .i64 a0_1)) (ds := []) #[false, false, false, false, false, false, false, false, false, false, false] (by kernel_rfl) rfl rfl ⟨(blk_cell BK101.out 0).trans rfl, (blk_cell BK101.out 1).trans rfl⟩ (fun hHeld => ?_); refine with_tabW amount_Print.tab4 amount_Print.bits4 (fun HT_ HW_ => ?_)
          generalize w13.drew = w14 at HO104 BK101 HB hHeld ⊢
          refine pure_ (i := 0) (N := some 11) (v := ?_) (a' := ?_) #[true, false, false, false, false, false, false, false, false, false, false] rfl rfl (any_of HT_.out (by kernel_rfl)) (fun _ _ _ h => h) (Or.inl ⟨by rfl, ?_⟩) ?_ ?_
          rotate_left
          · intro w'
            go_simp
            with_reducible rfl
          rotate_left
          · simp only [Act.put, List.setIfInBounds_toArray, List.set_cons_zero, List.set_cons_succ, i64_w, i32_w]
            rfl
          refine pure_ (i := 4) (N := some 15) (v := ?_) (a' := ?_) #[true, false, false, false, true, false, false, false, false, false, false] rfl rfl (any_of HT_.out (by kernel_rfl)) (fun _ _ _ h => h) (Or.inl ⟨by rfl, ?_⟩) ?_ ?_
          rotate_left
          · intro w'
            go_simp
            with_reducible rfl
          rotate_left
          · simp only [Act.put, List.setIfInBounds_toArray, List.set_cons_zero, List.set_cons_succ, i64_w, i32_w]
            rfl
          refine take_ (i := 1) (N := some 12) (v := ?_) (a' := ?_) #[true, true, false, false, true, false, false, false, false, false, false] rfl rfl (take_ofW HT_.out HW_.out (by kernel_rfl)) (fun _ _ _ h => h) (Or.inl ⟨by rfl, ?_⟩) hHeld ?_ ?_
          rotate_left
          · rintro w' ⟨s0, s1⟩
            go_simp
            with_reducible rfl
          rotate_left
          · simp only [Act.put, List.setIfInBounds_toArray, List.set_cons_zero, List.set_cons_succ, i64_w, i32_w]
            rfl
          refine take_ (i := 5) (N := some 16) (v := ?_) (a' := ?_) #[true, true, false, false, true, true, false, false, false, false, false] rfl rfl (take_ofW HT_.out HW_.out (by kernel_rfl)) (fun _ _ _ h => h) (Or.inl ⟨by rfl, ?_⟩) hHeld ?_ ?_
          rotate_left
          · rintro w' ⟨s0, s1⟩
            go_simp
            with_reducible rfl
          rotate_left
          · simp only [Act.put, List.setIfInBounds_toArray, List.set_cons_zero, List.set_cons_succ, i64_w, i32_w]
            rfl
          refine one_ (i := 2) (N := some 13) #[true, true, true, false, true, true, false, false, false, false, false] rfl rfl (one_of HT_.out (by kernel_rfl)) (by decide) (fun K hK => ?_)
          refine goes_ Tryd.func11 (by kernel_rfl) rfl #[.int .i64 a0_0] (by rfl) rfl rfl (by (try simp only [List.map_toArray, List.map_cons, List.map_nil]); first | done | rfl | (simp only [List.length_drop, List.length_take]; rfl)) ?_
          with_reducible refine (strconv_Itoa.calls a0_0 t107 _ A3.out (hInv.below (by repeat (first | (with_reducible first | exact HB.out | apply below_alloc | apply pw_below_drewN | apply below_drew1 | refine below_set ?_ GE101.out) | exact HB.out)))).mono ?_
          rintro e w15 ⟨rfl, hb⟩
          refine ⟨_, rfl, ?_⟩
          have n0_ := Aside0.mk (Kd.R_below (by (with_reducible repeat (first | apply Kd.R_alloc | apply Kd.R_drewN | apply Kd.R_drew)); exact HO104.out) hb)
          have n1_ := Aside0.mk (blk_below (g := gb101) (o := .cells #[.int .i64 a0_0, .int .i64 a0_1] 23 (0, 0)) (by (with_reducible repeat (first | refine blk_drewN ?_ _ | refine blk_drew ?_ | refine blk_alloc ?_ _)); exact BK101.out) hb)
          have n2_ := Aside0.mk (below_step (by repeat (first | (with_reducible first | exact HB.out | apply below_alloc | apply pw_below_drewN | apply below_drew1 | refine below_set ?_ GE101.out) | exact HB.out)) hb)
          clear HO104
          clear BK101
          clear HB
          have HO104 := n0_
          have BK101 := n1_
          have HB := n2_
          clear n0_ n1_ n2_
          (try clear hb)
          (try clear hb2)
          (try clear hk)
          (try clear hi)
          refine hK.out _ _ ⟨(blk_cell BK101.out 0).trans rfl, (blk_cell BK101.out 1).trans rfl⟩ (fun hHeld => ?_)
          clear hK K
          refine norm_ (a' := ?_) ?_ ?_
          rotate_left
          · show Act.put _ (some 13) _ = _
            simp only [Act.put, List.setIfInBounds_toArray, List.set_cons_zero, List.set_cons_succ, i64_w, i32_w]
            rfl
          refine pure_ (i := 3) (N := some 14) (v := ?_) (a' := ?_) #[true, true, true, true, true, true, false, false, false, false, false] rfl rfl (any_of HT_.out (by kernel_rfl)) (fun _ _ _ h => h) (Or.inl ⟨by rfl, ?_⟩) ?_ ?_
          rotate_left
          · intro w'
            go_simp
            with_reducible rfl
          rotate_left
          · simp only [Act.put, List.setIfInBounds_toArray, List.set_cons_zero, List.set_cons_succ, i64_w, i32_w]
            rfl
          refine one_ (i := 6) (N := some 17) #[true, true, true, true, true, true, true, false, false, false, false] rfl rfl (one_of HT_.out (by kernel_rfl)) (by decide) (fun K hK => ?_)
          refine goes_ Tryd.func11 (by kernel_rfl) rfl #[.int .i64 a0_1] (by rfl) rfl rfl (by (try simp only [List.map_toArray, List.map_cons, List.map_nil]); first | done | rfl | (simp only [List.length_drop, List.length_take]; rfl)) ?_
          with_reducible refine (strconv_Itoa.calls a0_1 t108 _ A5.out (hInv.below (by repeat (first | (with_reducible first | exact HB.out | apply below_alloc | apply pw_below_drewN | apply below_drew1 | refine below_set ?_ GE101.out) | exact HB.out)))).mono ?_
          rintro e w16 ⟨rfl, hb⟩
          refine ⟨_, rfl, ?_⟩
          have n0_ := Aside0.mk (Kd.R_below (by (with_reducible repeat (first | apply Kd.R_alloc | apply Kd.R_drewN | apply Kd.R_drew)); exact HO104.out) hb)
          have n1_ := Aside0.mk (blk_below (g := gb101) (o := .cells #[.int .i64 a0_0, .int .i64 a0_1] 23 (0, 0)) (by (with_reducible repeat (first | refine blk_drewN ?_ _ | refine blk_drew ?_ | refine blk_alloc ?_ _)); exact BK101.out) hb)
          have n2_ := Aside0.mk (below_step (by repeat (first | (with_reducible first | exact HB.out | apply below_alloc | apply pw_below_drewN | apply below_drew1 | refine below_set ?_ GE101.out) | exact HB.out)) hb)
          clear HO104
          clear BK101
          clear HB
          have HO104 := n0_
          have BK101 := n1_
          have HB := n2_
          clear n0_ n1_ n2_
          (try clear hb)
          (try clear hb2)
          (try clear hk)
          (try clear hi)
          refine hK.out _ _ ⟨(blk_cell BK101.out 0).trans rfl, (blk_cell BK101.out 1).trans rfl⟩ (fun hHeld => ?_)
          clear hK K
          refine norm_ (a' := ?_) ?_ ?_
          rotate_left
          · show Act.put _ (some 17) _ = _
            simp only [Act.put, List.setIfInBounds_toArray, List.set_cons_zero, List.set_cons_succ, i64_w, i32_w]
            rfl
          refine pure_ (i := 7) (N := some 18) (v := ?_) (a' := ?_) #[true, true, true, true, true, true, true, true, false, false, false] rfl rfl (any_of HT_.out (by kernel_rfl)) (fun _ _ _ h => h) (Or.inl ⟨by rfl, ?_⟩) ?_ ?_
          rotate_left
          · intro w'
            go_simp
            with_reducible rfl
          rotate_left
          · simp only [Act.put, List.setIfInBounds_toArray, List.set_cons_zero, List.set_cons_succ, i64_w, i32_w]
            rfl
          refine pure_ (i := 8) (N := some 19) (v := ?_) (a' := ?_) #[true, true, true, true, true, true, true, true, true, false, false] rfl rfl (any_of HT_.out (by kernel_rfl)) (fun _ _ _ h => h) (Or.inl ⟨by rfl, ?_⟩) ?_ ?_
          rotate_left
          · intro w'
            go_simp
            with_reducible rfl
          rotate_left
          · simp only [Act.put, List.setIfInBounds_toArray, List.set_cons_zero, List.set_cons_succ, i64_w, i32_w]
            rfl
          refine pure_ (i := 9) (N := some 2) (v := ?_) (a' := ?_) #[true, true, true, true, true, true, true, true, true, true, false] rfl rfl (any_of HT_.out (by kernel_rfl)) (fun _ _ _ h => h) (Or.inl ⟨by rfl, ?_⟩) ?_ ?_
          rotate_left
          · intro w'
            go_simp
            with_reducible rfl
          rotate_left
          · simp only [Act.put, List.setIfInBounds_toArray, List.set_cons_zero, List.set_cons_succ, i64_w, i32_w]
            rfl
          refine pure_ (i := 10) (N := some 3) (v := ?_) (a' := ?_) #[true, true, true, true, true, true, true, true, true, true, true] rfl rfl (any_of HT_.out (by kernel_rfl)) (fun _ _ _ h => h) (Or.inl ⟨by rfl, ?_⟩) ?_ ?_
          rotate_left
          · intro w'
            go_simp
            with_reducible rfl
          rotate_left
          · simp only [Act.put, List.setIfInBounds_toArray, List.set_cons_zero, List.set_cons_succ, i64_w, i32_w]
            rfl
          refine done_ (done_of HT_.out (by kernel_rfl)) ?_
          try go_wp2
          go_ret2
          exact ⟨by first | rfl | (simp [errW_none, errW_some] <;> rfl) | (simp [*, errW_none, errW_some] <;> rfl), by repeat (first | (with_reducible first | exact HB.out | apply below_alloc | apply pw_below_drewN | apply below_drew1 | refine below_set ?_ GE101.out) | exact HB.out)⟩
        · rw [if_neg c7] at H
          exact absurd H (by simp)
      · rw [if_neg c6] at H
        exact absurd H (by simp)
    · rw [if_neg c4] at H
      exact absurd H (by simp)
  · have H1 : (some ((⟨#[]⟩ : ByteArray), some q106)) = some (r1, r2) := by rw [if_neg (show ¬ (some q106).isNone = true by simp)] at H; exact H
    clear H
    have H := H1
    clear H1
    try simp only [errW_none, errW_some]
    simp only [Option.some.injEq, Prod.mk.injEq] at H
    obtain ⟨rfl, rfl⟩ := H
    go_enter Tryd.func5, Tryd.ntmps5
    go_wp2_with (first | ((with_reducible refine gate_dst (N := 1) rfl ?_); refine box_event ?hg (N := 1) ?hd (cs := #[.int .i64 a0_0, .int .i64 a0_1]) (t := 23) ?hr ?_; (case hd => rfl); (case hg => rfl); (case hr => first | (go_simp; done) | (go_simp; rfl)); intro gb101 hg w17 hbox hb; have n0_ := Aside0.mk (below_step (by repeat (first | (with_reducible first | exact HB.out | apply below_alloc | apply pw_below_drewN | apply below_drew1) | exact HB.out)) hb); have n1_ := Aside0.mk (hbox); have n2_ := Aside0.mk ((by rw [hg]; exact (below_size (by repeat (first | (with_reducible first | exact HB.out | apply below_alloc | apply pw_below_drewN | apply below_drew1) | exact HB.out))) : w.heap.size ≤ gb101)); have n3_ := Aside0.mk ((by rw [hg]; exact (below_size (by repeat (first | (with_reducible first | exact HB.out | apply below_alloc | apply pw_below_drewN | apply below_drew1) | exact HB.out))) : w.heap.size ≤ gb101)); clear HB; have HB := n0_; have BK101 := n1_; have GW101 := n2_; have GE101 := n3_; clear n0_ n1_ n2_ n3_; clear hb hbox hg; have hcz18_0 : w17.cell? ⟨gb101, 0, none⟩ = some (.int .i64 a0_0) := (blk_cell BK101.out 0).trans rfl; have hcz18_1 : w17.cell? ⟨gb101, 1, none⟩ = some (.int .i64 a0_1) := (blk_cell BK101.out 1).trans rfl; have hfz18_0 := blk_frozen BK101.out 0; have hfz18_1 := blk_frozen BK101.out 1) | ((with_reducible refine gate_dst (N := 6) rfl ?_); refine Kd.R_lit k23 _ 23 ?hg (N := 6) ?hd (xs := ([(⟨a0_0, a0_1⟩ : S23)] : List (S23))) (inner := [.int .i64 a0_0, .int .i64 a0_1]) (ok := fun _ => True) (okp := fun _ => True) ?hr ?hp (fun _ hk => hk) trivial (Below.refl _ _) (Nat.le_refl _) (by simp) ?_; (case hd => rfl); (case hg => rfl); (case hr => first | (go_simp; done) | (go_simp; rfl)); (case hp => exact (Reps.c2 (show Kd.M k23 _ _ _ (⟨a0_0, a0_1⟩ : S23) [.int .i64 a0_0, .int .i64 a0_1] from (k23_mkM _ _ _ (⟨a0_0, a0_1⟩ : S23) )) (Reps.none _ _))); intro v103 w19 ho20 hb hg_ hnew_; clear hg_ hnew_; (first | rw [← Ny102.out] at ho20 | (simp only [Int.reduceToNat] at ho20; rw [← Ny102.out] at ho20)); have n0_ := Aside0.mk (Kd.R_lower (Kd.R_newB ho20 (g := gb101) (o := .cells #[.int .i64 a0_0, .int .i64 a0_1] 23 (0, 0)) (by (with_reducible repeat (first | refine blk_drewN ?_ _ | refine blk_drew ?_ | refine blk_alloc ?_ _)); exact BK101.out)) (below_size (by repeat (first | (with_reducible first | exact HB.out | apply below_alloc | apply pw_below_drewN | apply below_drew1 | refine below_set ?_ GE101.out) | exact HB.out)))); have n1_ := Aside0.mk (blk_below (g := gb101) (o := .cells #[.int .i64 a0_0, .int .i64 a0_1] 23 (0, 0)) (by (with_reducible repeat (first | refine blk_drewN ?_ _ | refine blk_drew ?_ | refine blk_alloc ?_ _)); exact BK101.out) hb); have n2_ := Aside0.mk (below_step (by repeat (first | (with_reducible first | exact HB.out | apply below_alloc | apply pw_below_drewN | apply below_drew1 | refine below_set ?_ GE101.out) | exact HB.out)) hb); clear BK101; clear HB; have HO104 := n0_; have BK101 := n1_; have HB := n2_; clear n0_ n1_ n2_; clear hb ho20; obtain ⟨Ao21, co21, eo21⟩ := Kd.R_slice HO104.out; subst eo21) | ((with_reducible refine gate_callee (f := 10) rfl ?_); refine goesL_ (some 7) rfl rfl Tryd.func10 (by kernel_rfl) rfl #[.slice Ao21 y102.length co21] rfl (by (try simp only [List.map_toArray, List.map_cons, List.map_nil]); first | done | rfl | (simp only [List.length_drop, List.length_take]; rfl)) ?_; (with_reducible refine (amount_check.calls _ _ y102 (some q106) _ ?side1 ?side2 A2.out).mono ?_); (case side1 => repeat (first | exact (Kd.R_reads' HO104.out).2.2 | (with_reducible refine Kd.C_alloc ?_ _) | (with_reducible refine Kd.C_drewN ?_ _) | (with_reducible refine Kd.C_drew ?_))); (case side2 => exact (Kd.R_reads' HO104.out).2.1); rintro e w22 ⟨rfl, hb⟩; refine ⟨_, rfl, ?_⟩; have n0_ := Aside0.mk (Kd.R_below (by (with_reducible repeat (first | apply Kd.R_alloc | apply Kd.R_drewN | apply Kd.R_drew)); exact HO104.out) hb); have n1_ := Aside0.mk (blk_below (g := gb101) (o := .cells #[.int .i64 a0_0, .int .i64 a0_1] 23 (0, 0)) (by (with_reducible repeat (first | refine blk_drewN ?_ _ | refine blk_drew ?_ | refine blk_alloc ?_ _)); exact BK101.out) hb); have n2_ := Aside0.mk (below_step (by repeat (first | (with_reducible first | exact HB.out | apply below_alloc | apply pw_below_drewN | apply below_drew1 | refine below_set ?_ GE101.out) | exact HB.out)) hb); clear HO104; clear BK101; clear HB; have HO104 := n0_; have BK101 := n1_; have HB := n2_; clear n0_ n1_ n2_; (try clear hb); (try clear hb2); (try clear hk); (try clear hi); (try simp only [errW_none, errW_some])))
    go_ret2
    exact ⟨by first | rfl | (simp [errW_none, errW_some] <;> rfl) | (simp [*, errW_none, errW_some] <;> rfl), by repeat (first | (with_reducible first | exact HB.out | apply below_alloc | apply pw_below_drewN | apply below_drew1 | refine below_set ?_ GE101.out) | exact HB.out)⟩
def amount_Right.f (a0_0 : Int) (a0_1 : Int) : Option (Bool) := if a0_0 ≥ 0 then (if a0_0 ≤ 1099511627776 then (if a0_1 ≥ 0 then (some (decide (a0_1 ≤ 1099511627776))) else (some false)) else (some false)) else (some false)
set_option maxHeartbeats 8000000 in
set_option maxRecDepth 100000 in
theorem amount_Right.calls (a0_0 : Int) (a0_1 : Int) (r : Bool) (w : World) (h : amount_Right.f a0_0 a0_1 = some r) :
    Calls Tryd.prog 6 #[.agg #[.int .i64 a0_0, .int .i64 a0_1]] w fun e w' => e = .returned (.bool r) ∧ Below w.heap.size w w' := by
  have hu23 := Tryd.underlying23
  have HB := Aside0.mk (Below.refl w.heap.size w)
  have H : (if a0_0 ≥ 0 then (if a0_0 ≤ 1099511627776 then (if a0_1 ≥ 0 then (some (decide (a0_1 ≤ 1099511627776))) else (some false)) else (some false)) else (some false)) = some r := h
  clear h
  by_cases c2 : a0_0 ≥ 0
  · rw [if_pos c2] at H
    have c2b0 : decide (0 ≤ a0_0) = true := decide_eq_true c2
    clear c2
    by_cases c3 : a0_0 ≤ 1099511627776
    · rw [if_pos c3] at H
      have c3b0 : decide (a0_0 ≤ 1099511627776) = true := decide_eq_true c3
      clear c3
      by_cases c4 : a0_1 ≥ 0
      · rw [if_pos c4] at H
        have c4b0 : decide (0 ≤ a0_1) = true := decide_eq_true c4
        clear c4
        obtain rfl := Option.some.inj H
        go_enter Tryd.func6, Tryd.ntmps6
        go_wp2_with (first | ((with_reducible refine gate_dst (N := 1) rfl ?_); refine box_event ?hg (N := 1) ?hd (cs := #[.int .i64 a0_0, .int .i64 a0_1]) (t := 23) ?hr ?_; (case hd => rfl); (case hg => rfl); (case hr => first | (go_simp; done) | (go_simp; rfl)); intro gb109 hg w5 hbox hb; have n0_ := Aside0.mk (below_step (by repeat (first | (with_reducible first | exact HB.out | apply below_alloc | apply pw_below_drewN | apply below_drew1) | exact HB.out)) hb); have n1_ := Aside0.mk (hbox); have n2_ := Aside0.mk ((by rw [hg]; exact (below_size (by repeat (first | (with_reducible first | exact HB.out | apply below_alloc | apply pw_below_drewN | apply below_drew1) | exact HB.out))) : w.heap.size ≤ gb109)); have n3_ := Aside0.mk ((by rw [hg]; exact (below_size (by repeat (first | (with_reducible first | exact HB.out | apply below_alloc | apply pw_below_drewN | apply below_drew1) | exact HB.out))) : w.heap.size ≤ gb109)); clear HB; have HB := n0_; have BK109 := n1_; have GW109 := n2_; have GE109 := n3_; clear n0_ n1_ n2_ n3_; clear hb hbox hg; have hcz6_0 : w5.cell? ⟨gb109, 0, none⟩ = some (.int .i64 a0_0) := (blk_cell BK109.out 0).trans rfl; have hcz6_1 : w5.cell? ⟨gb109, 1, none⟩ = some (.int .i64 a0_1) := (blk_cell BK109.out 1).trans rfl; have hfz6_0 := blk_frozen BK109.out 0; have hfz6_1 := blk_frozen BK109.out 1))
        go_ret
        exact ⟨by first | rfl | (simp [errW_none, errW_some] <;> rfl) | (simp [*, errW_none, errW_some] <;> rfl), by repeat (first | (with_reducible first | exact HB.out | apply below_alloc | apply pw_below_drewN | apply below_drew1 | refine below_set ?_ GE109.out) | exact HB.out)⟩
      · rw [if_neg c4] at H
        have c4b0 : decide (0 ≤ a0_1) = false := decide_eq_false c4
        clear c4
        obtain rfl := Option.some.inj H
        go_enter Tryd.func6, Tryd.ntmps6
        go_wp2_with (first | ((with_reducible refine gate_dst (N := 1) rfl ?_); refine box_event ?hg (N := 1) ?hd (cs := #[.int .i64 a0_0, .int .i64 a0_1]) (t := 23) ?hr ?_; (case hd => rfl); (case hg => rfl); (case hr => first | (go_simp; done) | (go_simp; rfl)); intro gb109 hg w7 hbox hb; have n0_ := Aside0.mk (below_step (by repeat (first | (with_reducible first | exact HB.out | apply below_alloc | apply pw_below_drewN | apply below_drew1) | exact HB.out)) hb); have n1_ := Aside0.mk (hbox); have n2_ := Aside0.mk ((by rw [hg]; exact (below_size (by repeat (first | (with_reducible first | exact HB.out | apply below_alloc | apply pw_below_drewN | apply below_drew1) | exact HB.out))) : w.heap.size ≤ gb109)); have n3_ := Aside0.mk ((by rw [hg]; exact (below_size (by repeat (first | (with_reducible first | exact HB.out | apply below_alloc | apply pw_below_drewN | apply below_drew1) | exact HB.out))) : w.heap.size ≤ gb109)); clear HB; have HB := n0_; have BK109 := n1_; have GW109 := n2_; have GE109 := n3_; clear n0_ n1_ n2_ n3_; clear hb hbox hg; have hcz8_0 : w7.cell? ⟨gb109, 0, none⟩ = some (.int .i64 a0_0) := (blk_cell BK109.out 0).trans rfl; have hcz8_1 : w7.cell? ⟨gb109, 1, none⟩ = some (.int .i64 a0_1) := (blk_cell BK109.out 1).trans rfl; have hfz8_0 := blk_frozen BK109.out 0; have hfz8_1 := blk_frozen BK109.out 1))
        go_ret
        exact ⟨by first | rfl | (simp [errW_none, errW_some] <;> rfl) | (simp [*, errW_none, errW_some] <;> rfl), by repeat (first | (with_reducible first | exact HB.out | apply below_alloc | apply pw_below_drewN | apply below_drew1 | refine below_set ?_ GE109.out) | exact HB.out)⟩
    · rw [if_neg c3] at H
      have c3b0 : decide (a0_0 ≤ 1099511627776) = false := decide_eq_false c3
      clear c3
      obtain rfl := Option.some.inj H
      go_enter Tryd.func6, Tryd.ntmps6
      go_wp2_with (first | ((with_reducible refine gate_dst (N := 1) rfl ?_); refine box_event ?hg (N := 1) ?hd (cs := #[.int .i64 a0_0, .int .i64 a0_1]) (t := 23) ?hr ?_; (case hd => rfl); (case hg => rfl); (case hr => first | (go_simp; done) | (go_simp; rfl)); intro gb109 hg w9 hbox hb; have n0_ := Aside0.mk (below_step (by repeat (first | (with_reducible first | exact HB.out | apply below_alloc | apply pw_below_drewN | apply below_drew1) | exact HB.out)) hb); have n1_ := Aside0.mk (hbox); have n2_ := Aside0.mk ((by rw [hg]; exact (below_size (by repeat (first | (with_reducible first | exact HB.out | apply below_alloc | apply pw_below_drewN | apply below_drew1) | exact HB.out))) : w.heap.size ≤ gb109)); have n3_ := Aside0.mk ((by rw [hg]; exact (below_size (by repeat (first | (with_reducible first | exact HB.out | apply below_alloc | apply pw_below_drewN | apply below_drew1) | exact HB.out))) : w.heap.size ≤ gb109)); clear HB; have HB := n0_; have BK109 := n1_; have GW109 := n2_; have GE109 := n3_; clear n0_ n1_ n2_ n3_; clear hb hbox hg; have hcz10_0 : w9.cell? ⟨gb109, 0, none⟩ = some (.int .i64 a0_0) := (blk_cell BK109.out 0).trans rfl; have hcz10_1 : w9.cell? ⟨gb109, 1, none⟩ = some (.int .i64 a0_1) := (blk_cell BK109.out 1).trans rfl; have hfz10_0 := blk_frozen BK109.out 0; have hfz10_1 := blk_frozen BK109.out 1))
      go_ret
      exact ⟨by first | rfl | (simp [errW_none, errW_some] <;> rfl) | (simp [*, errW_none, errW_some] <;> rfl), by repeat (first | (with_reducible first | exact HB.out | apply below_alloc | apply pw_below_drewN | apply below_drew1 | refine below_set ?_ GE109.out) | exact HB.out)⟩
  · rw [if_neg c2] at H
    have c2b0 : decide (0 ≤ a0_0) = false := decide_eq_false c2
    clear c2
    obtain rfl := Option.some.inj H
    go_enter Tryd.func6, Tryd.ntmps6
    go_wp2_with (first | ((with_reducible refine gate_dst (N := 1) rfl ?_); refine box_event ?hg (N := 1) ?hd (cs := #[.int .i64 a0_0, .int .i64 a0_1]) (t := 23) ?hr ?_; (case hd => rfl); (case hg => rfl); (case hr => first | (go_simp; done) | (go_simp; rfl)); intro gb109 hg w11 hbox hb; have n0_ := Aside0.mk (below_step (by repeat (first | (with_reducible first | exact HB.out | apply below_alloc | apply pw_below_drewN | apply below_drew1) | exact HB.out)) hb); have n1_ := Aside0.mk (hbox); have n2_ := Aside0.mk ((by rw [hg]; exact (below_size (by repeat (first | (with_reducible first | exact HB.out | apply below_alloc | apply pw_below_drewN | apply below_drew1) | exact HB.out))) : w.heap.size ≤ gb109)); have n3_ := Aside0.mk ((by rw [hg]; exact (below_size (by repeat (first | (with_reducible first | exact HB.out | apply below_alloc | apply pw_below_drewN | apply below_drew1) | exact HB.out))) : w.heap.size ≤ gb109)); clear HB; have HB := n0_; have BK109 := n1_; have GW109 := n2_; have GE109 := n3_; clear n0_ n1_ n2_ n3_; clear hb hbox hg; have hcz12_0 : w11.cell? ⟨gb109, 0, none⟩ = some (.int .i64 a0_0) := (blk_cell BK109.out 0).trans rfl; have hcz12_1 : w11.cell? ⟨gb109, 1, none⟩ = some (.int .i64 a0_1) := (blk_cell BK109.out 1).trans rfl; have hfz12_0 := blk_frozen BK109.out 0; have hfz12_1 := blk_frozen BK109.out 1))
    go_ret
    exact ⟨by first | rfl | (simp [errW_none, errW_some] <;> rfl) | (simp [*, errW_none, errW_some] <;> rfl), by repeat (first | (with_reducible first | exact HB.out | apply below_alloc | apply pw_below_drewN | apply below_drew1 | refine below_set ?_ GE109.out) | exact HB.out)⟩
def amount_made.f (a0_0 a0_1 a1_0 a1_1 a2_0 a2_1 : Int) : Option (Int × Int × Option Int) := madeF a0_0 a0_1 a1_0 a1_1 a2_0 a2_1
theorem amount_made.calls (a0_0 a0_1 a1_0 a1_1 a2_0 a2_1 : Int) (r1 r2 : Int) (r3 : Option Int) (w : World) (h : amount_made.f a0_0 a0_1 a1_0 a1_1 a2_0 a2_1 = some (r1, r2, r3)) :
    Calls Tryd.prog 15 #[.agg #[.int .i64 a0_0, .int .i64 a0_1], .agg #[.int .i64 a1_0, .int .i64 a1_1], .agg #[.int .i64 a2_0, .int .i64 a2_1]] w fun e w' => e = .returned (.tuple #[.agg #[.int .i64 r1, .int .i64 r2], errW r3]) ∧ Below w.heap.size w w' := by
  rw [errW_O]
  exact made_code _ _ _ _ _ _ _ _ _ w h
def amount_Add.f (a0_0 : Int) (a0_1 : Int) (a1_0 : Int) (a1_1 : Int) : Option (Int × Int × Option Int) := (amount_made.f a0_0 a0_1 a1_0 a1_1 (wrap64 (a0_0 + a1_0)) (wrap64 (a0_1 + a1_1))).bind fun bt113 => (some (bt113.1, bt113.2.1, bt113.2.2))
set_option maxHeartbeats 8000000 in
set_option maxRecDepth 100000 in
theorem amount_Add.calls (a0_0 : Int) (a0_1 : Int) (a1_0 : Int) (a1_1 : Int) (r1 : Int) (r2 : Int) (r3 : Option Int) (w : World) (h : amount_Add.f a0_0 a0_1 a1_0 a1_1 = some (r1, r2, r3)) :
    Calls Tryd.prog 8 #[.agg #[.int .i64 a0_0, .int .i64 a0_1], .agg #[.int .i64 a1_0, .int .i64 a1_1]] w fun e w' => e = .returned (.tuple #[.agg #[.int .i64 r1, .int .i64 r2], errW r3]) ∧ Below w.heap.size w w' := by
  have hu23 := Tryd.underlying23
  have HB := Aside0.mk (Below.refl w.heap.size w)
  have H : ((amount_made.f a0_0 a0_1 a1_0 a1_1 (wrap64 (a0_0 + a1_0)) (wrap64 (a0_1 + a1_1))).bind fun bt113 => (some (bt113.1, bt113.2.1, bt113.2.2))) = some (r1, r2, r3) := h
  clear h
  replace H := Option.bind_eq_some_iff.mp H
  obtain ⟨⟨t113, t114, t115⟩, A30, H⟩ := H
  replace H : (some (t113, t114, t115)) = some (r1, r2, r3) := H
  have A3 := Aside0.mk A30
  clear A30
  simp only [Option.some.injEq, Prod.mk.injEq] at H
  obtain ⟨rfl, rfl, rfl⟩ := H
  go_enter Tryd.func8, Tryd.ntmps8
  go_wp2_with (first | ((with_reducible refine gate_dst (N := 2) rfl ?_); refine box_event ?hg (N := 2) ?hd (cs := #[.int .i64 a0_0, .int .i64 a0_1]) (t := 23) ?hr ?_; (case hd => rfl); (case hg => rfl); (case hr => first | (go_simp; done) | (go_simp; rfl)); intro gb110 hg w4 hbox hb; have n0_ := Aside0.mk (below_step (by repeat (first | (with_reducible first | exact HB.out | apply below_alloc | apply pw_below_drewN | apply below_drew1) | exact HB.out)) hb); have n1_ := Aside0.mk (hbox); have n2_ := Aside0.mk ((by rw [hg]; exact (below_size (by repeat (first | (with_reducible first | exact HB.out | apply below_alloc | apply pw_below_drewN | apply below_drew1) | exact HB.out))) : w.heap.size ≤ gb110)); have n3_ := Aside0.mk ((by rw [hg]; exact (below_size (by repeat (first | (with_reducible first | exact HB.out | apply below_alloc | apply pw_below_drewN | apply below_drew1) | exact HB.out))) : w.heap.size ≤ gb110)); clear HB; have HB := n0_; have BK110 := n1_; have GW110 := n2_; have GE110 := n3_; clear n0_ n1_ n2_ n3_; clear hb hbox hg) | ((with_reducible refine gate_dst (N := 3) rfl ?_); refine box_event ?hg (N := 3) ?hd (cs := #[.int .i64 a1_0, .int .i64 a1_1]) (t := 23) ?hr ?_; (case hd => rfl); (case hg => rfl); (case hr => first | (go_simp; done) | (go_simp; rfl)); intro gb111 hg w5 hbox hb; have n0_ := Aside0.mk (blk_below (g := gb110) (o := .cells #[.int .i64 a0_0, .int .i64 a0_1] 23 (0, 0)) (by (with_reducible repeat (first | refine blk_drewN ?_ _ | refine blk_drew ?_ | refine blk_alloc ?_ _)); exact BK110.out) hb); have n1_ := Aside0.mk (below_step (by repeat (first | (with_reducible first | exact HB.out | apply below_alloc | apply pw_below_drewN | apply below_drew1 | refine below_set ?_ GE110.out) | exact HB.out)) hb); have n2_ := Aside0.mk (hbox); have n3_ := Aside0.mk ((by rw [hg]; exact (below_size (by repeat (first | (with_reducible first | exact HB.out | apply below_alloc | apply pw_below_drewN | apply below_drew1 | refine below_set ?_ GE110.out) | exact HB.out))) : w.heap.size ≤ gb111)); have n4_ := Aside0.mk ((by rw [hg]; exact (below_size (by repeat (first | (with_reducible first | exact HB.out | apply below_alloc | apply pw_below_drewN | apply below_drew1 | refine below_set ?_ GE110.out) | exact HB.out))) : w.heap.size ≤ gb111)); have n5_ := Aside0.mk ((by rw [hg]; exact Nat.ne_of_lt (blk_lt (g := gb110) (o := .cells #[.int .i64 a0_0, .int .i64 a0_1] 23 (0, 0)) (by (with_reducible repeat (first | refine blk_drewN ?_ _ | refine blk_drew ?_ | refine blk_alloc ?_ _)); exact BK110.out)) : gb110 ≠ gb111)); have n6_ := Aside0.mk ((by rw [hg]; exact Nat.ne_of_gt (blk_lt (g := gb110) (o := .cells #[.int .i64 a0_0, .int .i64 a0_1] 23 (0, 0)) (by (with_reducible repeat (first | refine blk_drewN ?_ _ | refine blk_drew ?_ | refine blk_alloc ?_ _)); exact BK110.out)) : gb111 ≠ gb110)); clear BK110; clear HB; have BK110 := n0_; have HB := n1_; have BK111 := n2_; have GW111 := n3_; have GE111 := n4_; have NB110_111 := n5_; have NB111_110 := n6_; clear n0_ n1_ n2_ n3_ n4_ n5_ n6_; clear hb hbox hg) | ((with_reducible refine gate_dst (N := 4) rfl ?_); refine box_event ?hg (N := 4) ?hd (cs := #[.int .i64 0, .int .i64 0]) (t := 23) ?hr ?_; (case hd => rfl); (case hg => rfl); (case hr => first | (go_simp; done) | (go_simp; rfl)); intro gb112 hg w6 hbox hb; have n0_ := Aside0.mk (blk_below (g := gb110) (o := .cells #[.int .i64 a0_0, .int .i64 a0_1] 23 (0, 0)) (by (with_reducible repeat (first | refine blk_drewN ?_ _ | refine blk_drew ?_ | refine blk_alloc ?_ _)); exact BK110.out) hb); have n1_ := Aside0.mk (blk_below (g := gb111) (o := .cells #[.int .i64 a1_0, .int .i64 a1_1] 23 (0, 0)) (by (with_reducible repeat (first | refine blk_drewN ?_ _ | refine blk_drew ?_ | refine blk_alloc ?_ _)); exact BK111.out) hb); have n2_ := Aside0.mk (below_step (by repeat (first | (with_reducible first | exact HB.out | apply below_alloc | apply pw_below_drewN | apply below_drew1 | refine below_set ?_ GE110.out | refine below_set ?_ GE111.out) | exact HB.out)) hb); have n3_ := Aside0.mk (hbox); have n4_ := Aside0.mk ((by rw [hg]; exact (below_size (by repeat (first | (with_reducible first | exact HB.out | apply below_alloc | apply pw_below_drewN | apply below_drew1 | refine below_set ?_ GE110.out | refine below_set ?_ GE111.out) | exact HB.out))) : w.heap.size ≤ gb112)); have n5_ := Aside0.mk ((by rw [hg]; exact (below_size (by repeat (first | (with_reducible first | exact HB.out | apply below_alloc | apply pw_below_drewN | apply below_drew1 | refine below_set ?_ GE110.out | refine below_set ?_ GE111.out) | exact HB.out))) : w.heap.size ≤ gb112)); have n6_ := Aside0.mk ((by rw [hg]; exact Nat.ne_of_lt (blk_lt (g := gb110) (o := .cells #[.int .i64 a0_0, .int .i64 a0_1] 23 (0, 0)) (by (with_reducible repeat (first | refine blk_drewN ?_ _ | refine blk_drew ?_ | refine blk_alloc ?_ _)); exact BK110.out)) : gb110 ≠ gb112)); have n7_ := Aside0.mk ((by rw [hg]; exact Nat.ne_of_gt (blk_lt (g := gb110) (o := .cells #[.int .i64 a0_0, .int .i64 a0_1] 23 (0, 0)) (by (with_reducible repeat (first | refine blk_drewN ?_ _ | refine blk_drew ?_ | refine blk_alloc ?_ _)); exact BK110.out)) : gb112 ≠ gb110)); have n8_ := Aside0.mk ((by rw [hg]; exact Nat.ne_of_lt (blk_lt (g := gb111) (o := .cells #[.int .i64 a1_0, .int .i64 a1_1] 23 (0, 0)) (by (with_reducible repeat (first | refine blk_drewN ?_ _ | refine blk_drew ?_ | refine blk_alloc ?_ _)); exact BK111.out)) : gb111 ≠ gb112)); have n9_ := Aside0.mk ((by rw [hg]; exact Nat.ne_of_gt (blk_lt (g := gb111) (o := .cells #[.int .i64 a1_0, .int .i64 a1_1] 23 (0, 0)) (by (with_reducible repeat (first | refine blk_drewN ?_ _ | refine blk_drew ?_ | refine blk_alloc ?_ _)); exact BK111.out)) : gb112 ≠ gb111)); clear BK110; clear BK111; clear HB; have BK110 := n0_; have BK111 := n1_; have HB := n2_; have BK112 := n3_; have GW112 := n4_; have GE112 := n5_; have NB110_112 := n6_; have NB112_110 := n7_; have NB111_112 := n8_; have NB112_111 := n9_; clear n0_ n1_ n2_ n3_ n4_ n5_ n6_ n7_ n8_ n9_; clear hb hbox hg; have hnb7 := NB110_111.out; have hnc7 := NB111_110.out; have hnb8 := NB110_112.out; have hnc8 := NB112_110.out; have hcz9_0 : w6.cell? ⟨gb110, 0, none⟩ = some (.int .i64 a0_0) := (blk_cell BK110.out 0).trans rfl; have hcz9_1 : w6.cell? ⟨gb110, 1, none⟩ = some (.int .i64 a0_1) := (blk_cell BK110.out 1).trans rfl; have hfz9_0 := blk_frozen BK110.out 0; have hfz9_1 := blk_frozen BK110.out 1; have hnb10 := NB111_112.out; have hnc10 := NB112_111.out; have hcz11_0 : w6.cell? ⟨gb111, 0, none⟩ = some (.int .i64 a1_0) := (blk_cell BK111.out 0).trans rfl; have hcz11_1 : w6.cell? ⟨gb111, 1, none⟩ = some (.int .i64 a1_1) := (blk_cell BK111.out 1).trans rfl; have hfz11_0 := blk_frozen BK111.out 0; have hfz11_1 := blk_frozen BK111.out 1) | ((with_reducible refine gate_callee (f := 15) rfl ?_); refine goesL_ (some 19) rfl rfl Tryd.func15 (by kernel_rfl) rfl #[.agg #[.int .i64 a0_0, .int .i64 a0_1], .agg #[.int .i64 a1_0, .int .i64 a1_1], .agg #[.int .i64 (wrap64 (a0_0 + a1_0)), .int .i64 (wrap64 (a0_1 + a1_1))]] rfl (by (try simp only [List.map_toArray, List.map_cons, List.map_nil]); first | done | rfl | (simp only [List.length_drop, List.length_take]; rfl)) ?_; (with_reducible refine (amount_made.calls a0_0 a0_1 a1_0 a1_1 (wrap64 (a0_0 + a1_0)) (wrap64 (a0_1 + a1_1)) t113 t114 t115 _ A3.out).mono ?_); rintro e w12 ⟨rfl, hb⟩; refine ⟨_, rfl, ?_⟩; have n0_ := Aside0.mk (blk_below (g := gb110) (o := .cells #[.int .i64 a0_0, .int .i64 a0_1] 23 (0, 0)) (by (with_reducible repeat (first | refine blk_drewN ?_ _ | refine blk_drew ?_ | refine blk_alloc ?_ _)); exact BK110.out) hb); have n1_ := Aside0.mk (blk_below (g := gb111) (o := .cells #[.int .i64 a1_0, .int .i64 a1_1] 23 (0, 0)) (by (with_reducible repeat (first | refine blk_drewN ?_ _ | refine blk_drew ?_ | refine blk_alloc ?_ _)); exact BK111.out) hb); have n2_ := Aside0.mk (blk_below (g := gb112) (o := .cells #[.int .i64 0, .int .i64 0] 23 (0, 0)) (by (with_reducible repeat (first | refine blk_drewN ?_ _ | refine blk_drew ?_ | refine blk_alloc ?_ _)); exact BK112.out) hb); have n3_ := Aside0.mk (below_step (by repeat (first | (with_reducible first | exact HB.out | apply below_alloc | apply pw_below_drewN | apply below_drew1 | refine below_set ?_ GE110.out | refine below_set ?_ GE111.out | refine below_set ?_ GE112.out) | exact HB.out)) hb); clear BK110; clear BK111; clear BK112; clear HB; have BK110 := n0_; have BK111 := n1_; have BK112 := n2_; have HB := n3_; clear n0_ n1_ n2_ n3_; (try clear hb); (try clear hb2); (try clear hk); (try clear hi); (try simp only [errW_none, errW_some]); have hcz13_0 : w12.cell? ⟨gb112, 0, none⟩ = some (.int .i64 0) := (blk_cell BK112.out 0).trans rfl; have hcz13_1 : w12.cell? ⟨gb112, 1, none⟩ = some (.int .i64 0) := (blk_cell BK112.out 1).trans rfl; have hfz13_0 := blk_frozen BK112.out 0; have hfz13_1 := blk_frozen BK112.out 1))
  refine bodyPost_ret (results_ct rfl _ _ gb112 23 #[.int .i64 t113, .int .i64 t114] (0, 0) _ rfl (by (with_reducible repeat (first | refine blk_drewN ?_ _ | refine blk_drew ?_ | refine blk_alloc ?_ _)); refine blk_put (cs := #[.int .i64 t113, .int .i64 0]) ?_ 1 _ rfl; (with_reducible repeat (first | refine blk_drewN ?_ _ | refine blk_drew ?_ | refine blk_alloc ?_ _)); refine blk_put (cs := #[.int .i64 0, .int .i64 0]) ?_ 0 _ rfl; (with_reducible repeat (first | refine blk_drewN ?_ _ | refine blk_drew ?_ | refine blk_alloc ?_ _)); exact BK112.out) Tryd.underlying23 rfl (by kernel_rfl)) rfl ?_
  exact ⟨by first | rfl | (simp [errW_none, errW_some] <;> rfl) | (simp [*, errW_none, errW_some] <;> rfl), by repeat (first | (with_reducible first | exact HB.out | apply below_alloc | apply pw_below_drewN | apply below_drew1 | refine below_set ?_ GE110.out | refine below_set ?_ GE111.out | refine below_set ?_ GE112.out) | exact HB.out)⟩
def flotillalaw03_of.f (a0 : Int) (a1 : Int) : Option (Int × Int) := some (a0, a1)
set_option maxHeartbeats 8000000 in
set_option maxRecDepth 100000 in
theorem flotillalaw03_of.calls (a0 : Int) (a1 : Int) (r1 : Int) (r2 : Int) (w : World) (h : flotillalaw03_of.f a0 a1 = some (r1, r2)) :
    Calls Tryd.prog 9 #[.int .i64 a0, .int .i64 a1] w fun e w' => e = .returned (.agg #[.int .i64 r1, .int .i64 r2]) ∧ Below w.heap.size w w' := by
  have hu23 := Tryd.underlying23
  have HB := Aside0.mk (Below.refl w.heap.size w)
  have H : (some (a0, a1)) = some (r1, r2) := h
  clear h
  simp only [Option.some.injEq, Prod.mk.injEq] at H
  obtain ⟨rfl, rfl⟩ := H
  go_enter Tryd.func9, Tryd.ntmps9
  go_wp2_with (first | ((with_reducible refine gate_dst (N := 4) rfl ?_); refine box_event ?hg (N := 4) ?hd (cs := #[.int .i64 0, .int .i64 0]) (t := 23) ?hr ?_; (case hd => rfl); (case hg => rfl); (case hr => first | (go_simp; done) | (go_simp; rfl)); intro gb116 hg w3 hbox hb; have n0_ := Aside0.mk (below_step (by repeat (first | (with_reducible first | exact HB.out | apply below_alloc | apply pw_below_drewN | apply below_drew1) | exact HB.out)) hb); have n1_ := Aside0.mk (hbox); have n2_ := Aside0.mk ((by rw [hg]; exact (below_size (by repeat (first | (with_reducible first | exact HB.out | apply below_alloc | apply pw_below_drewN | apply below_drew1) | exact HB.out))) : w.heap.size ≤ gb116)); have n3_ := Aside0.mk ((by rw [hg]; exact (below_size (by repeat (first | (with_reducible first | exact HB.out | apply below_alloc | apply pw_below_drewN | apply below_drew1) | exact HB.out))) : w.heap.size ≤ gb116)); clear HB; have HB := n0_; have BK116 := n1_; have GW116 := n2_; have GE116 := n3_; clear n0_ n1_ n2_ n3_; clear hb hbox hg; have hcz4_0 : w3.cell? ⟨gb116, 0, none⟩ = some (.int .i64 0) := (blk_cell BK116.out 0).trans rfl; have hcz4_1 : w3.cell? ⟨gb116, 1, none⟩ = some (.int .i64 0) := (blk_cell BK116.out 1).trans rfl; have hfz4_0 := blk_frozen BK116.out 0; have hfz4_1 := blk_frozen BK116.out 1))
  refine bodyPost_ret (results_cell_row rfl _ _ gb116 23 #[.int .i64 a0, .int .i64 a1] (0, 0) _ rfl (by (with_reducible repeat (first | refine blk_drewN ?_ _ | refine blk_drew ?_ | refine blk_alloc ?_ _)); refine blk_put (cs := #[.int .i64 a0, .int .i64 0]) ?_ 1 _ rfl; (with_reducible repeat (first | refine blk_drewN ?_ _ | refine blk_drew ?_ | refine blk_alloc ?_ _)); refine blk_put (cs := #[.int .i64 0, .int .i64 0]) ?_ 0 _ rfl; (with_reducible repeat (first | refine blk_drewN ?_ _ | refine blk_drew ?_ | refine blk_alloc ?_ _)); exact BK116.out) Tryd.underlying23 rfl (by kernel_rfl)) rfl ?_
  exact ⟨by first | rfl | (simp [errW_none, errW_some] <;> rfl) | (simp [*, errW_none, errW_some] <;> rfl), by repeat (first | (with_reducible first | exact HB.out | apply below_alloc | apply pw_below_drewN | apply below_drew1 | refine below_set ?_ GE116.out) | exact HB.out)⟩
end Go.Proofs.YtcmnbcdimhcdkaaDoor.QThere
