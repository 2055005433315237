/- Lemmas on which the law stands, part 4: Ord, Stable, SortK, SortR, Vict, LentO, Five, Works, SameL, LentS, Kept, ApL, Copy, Bld, Apnd, ApLB, ApLA, Book, BookO, BookS, ApO, ApOW, NilB, Order, First, OpenPod, OpenObj, RefV, BookA, Obs, Two, KeptO, SrtO. -/
import Derived.Test.YtoepbjgldmgaoaaDoorKObjS3
import Derived.Test.YtoepbjgldmgaoaaDoorWApart
import Derived.Handy
import Derived.SizedLaws
import Derived.ChangeArms
import Derived.WideShapes
import Derived.OpenShut
import Derived.Deep.SlicePairs
import Derived.ChangeSame
set_option linter.unusedVariables false
set_option linter.unusedSimpArgs false
/- Stable sorting, plainly: sorting pictures; what is equal among itself keeps its order; the document's way (put in from behind). -/
namespace Go.Proofs.YtoepbjgldmgaoaaDoor.Srt
open Go.Proofs.YtoepbjgldmgaoaaDoor.Wc
variable {α β : Type}
theorem ins_map (c : α → α → Int) (f : β → α) (x : β) (l : List β) : (ins (fun a b => c (f a) (f b)) x l).map f = ins c (f x) (l.map f) := by
  induction l with
  | nil => rfl
  | cons y l ih =>
    simp only [ins, List.map_cons]
    split
    · rfl
    · rw [List.map_cons, ih]
theorem isort_map (c : α → α → Int) (f : β → α) (l : List β) : (isort (fun a b => c (f a) (f b)) l).map f = isort c (l.map f) := by
  have key : ∀ (l acc : List β), (l.foldl (fun acc x => ins (fun a b => c (f a) (f b)) x acc) acc).map f = (l.map f).foldl (fun acc x => ins c x acc) (acc.map f) := by
    intro l
    induction l with
    | nil => intro acc; rfl
    | cons x l ih => intro acc; rw [List.foldl_cons, ih, ins_map, List.map_cons, List.foldl_cons]
  exact key l []
theorem ins_congr {c c' : α → α → Int} (x : α) (l : List α) (h : ∀ y ∈ l, (c x y < 0 ↔ c' x y < 0)) : ins c x l = ins c' x l := by
  induction l with
  | nil => rfl
  | cons y l ih =>
    simp only [ins]
    have h1 := h y List.mem_cons_self
    by_cases g : c x y < 0
    · rw [if_pos g, if_pos (h1.1 g)]
    · rw [if_neg g, if_neg (fun k => g (h1.2 k)), ih (fun z hz => h z (List.mem_cons_of_mem _ hz))]
theorem isort_congr {c c' : α → α → Int} (l : List α) (h : ∀ x ∈ l, ∀ y ∈ l, (c x y < 0 ↔ c' x y < 0)) : isort c l = isort c' l := by
  have key : ∀ (l acc : List α), (∀ x ∈ l, ∀ y, y ∈ l ∨ y ∈ acc → (c x y < 0 ↔ c' x y < 0)) → l.foldl (fun acc x => ins c x acc) acc = l.foldl (fun acc x => ins c' x acc) acc := by
    intro l
    induction l with
    | nil => intro acc _; rfl
    | cons x l ih =>
      intro acc hh
      have e : ins c x acc = ins c' x acc := ins_congr x acc (fun y hy => hh x List.mem_cons_self y (.inr hy))
      rw [List.foldl_cons, List.foldl_cons, e]
      refine ih _ (fun z hz y hy => hh z (List.mem_cons_of_mem _ hz) y ?_)
      rcases hy with hy | hy
      · exact .inl (List.mem_cons_of_mem _ hy)
      · rcases (mem_ins x y acc).1 hy with rfl | hy
        · exact .inl List.mem_cons_self
        · exact .inr hy
  exact key l [] (fun x hx y hy => h x hx y (hy.resolve_right List.not_mem_nil))
theorem ins_perm (c : α → α → Int) (x : α) (l : List α) : (ins c x l).Perm (x :: l) := by
  induction l with
  | nil => exact List.Perm.refl _
  | cons y l ih =>
    simp only [ins]
    split
    · exact List.Perm.refl _
    · exact (List.Perm.cons y ih).trans (List.Perm.swap x y l)
theorem isort_perm (c : α → α → Int) (l : List α) : (isort c l).Perm l := by
  have key : ∀ (l acc : List α), (l.foldl (fun acc x => ins c x acc) acc).Perm (acc ++ l) := by
    intro l
    induction l with
    | nil => intro acc; rw [List.append_nil]; exact List.Perm.refl _
    | cons x l ih =>
      intro acc
      rw [List.foldl_cons]
      refine (ih _).trans ?_
      refine ((ins_perm c x acc).append_right l).trans ?_
      exact List.perm_middle.symm
  exact key l []
theorem mem_merge (c : α → α → Int) (x : α) : ∀ (n : Nat) (A B : List α), A.length + B.length ≤ n → (x ∈ merge c A B ↔ x ∈ A ∨ x ∈ B) := by
  intro n
  induction n with
  | zero =>
    intro A B hn
    obtain rfl : A = [] := List.length_eq_zero_iff.1 (by omega)
    rw [merge_nil_left]
    simp
  | succ n ih =>
    intro A B hn
    cases A with
    | nil => rw [merge_nil_left]; simp
    | cons a A =>
      cases B with
      | nil => rw [merge_nil_right]; simp
      | cons b B =>
        rw [merge_cons]
        split
        · rw [List.mem_cons, ih _ _ (by simp at hn ⊢; omega)]
          simp only [List.mem_cons]
          exact ⟨fun g => by rcases g with g | (g | g) | g <;> simp [g], fun g => by rcases g with (g | g) | (g | g) <;> simp [g]⟩
        · rw [List.mem_cons, ih _ _ (by simp at hn ⊢; omega)]
          simp only [List.mem_cons]
          exact ⟨fun g => by rcases g with g | g | (g | g) <;> simp [g], fun g => by rcases g with (g | g) | (g | g) <;> simp [g]⟩
def back (lt : α → α → Bool) (x : α) (acc : List α) (n : Nat) : Nat :=
  match n with
  | 0 => 0
  | n + 1 => match acc[n]? with
    | some y => if lt x y then back lt x acc n else n + 1
    | none => 0
theorem back_ins {c : α → α → Int} (h : IsCmp c) (x : α) (acc : List α) (hs : Sorted c acc) : ∀ (n : Nat), n ≤ acc.length → (∀ i y, n ≤ i → acc[i]? = some y → c x y < 0) →
    acc.take (back (fun a b => decide (c a b < 0)) x acc n) ++ x :: acc.drop (back (fun a b => decide (c a b < 0)) x acc n) = ins c x acc := by
  intro n
  induction n with
  | zero =>
    intro hn hab
    simp only [back, List.take_zero, List.drop_zero, List.nil_append]
    cases acc with
    | nil => rfl
    | cons y l =>
      simp only [ins]
      rw [if_pos (hab 0 y (Nat.le_refl _) rfl)]
  | succ n ih =>
    intro hn hab
    have e : acc[n]? = some acc[n] := List.getElem?_eq_getElem (by omega)
    simp only [back, e]
    by_cases g : c x acc[n] < 0
    · simp only [decide_eq_true g, if_true]
      refine ih (by omega) (fun i y hi hy => ?_)
      rcases Nat.lt_or_eq_of_le hi with hi | hi
      · exact hab i y hi hy
      · subst hi
        rw [e] at hy
        obtain rfl := Option.some.inj hy
        exact g
    · simp only [decide_eq_false g, Bool.false_eq_true, if_false]
      have h1 := ins_at (c := c) x (acc.take (n + 1)) (acc.drop (n + 1)) (fun a ha hlt => ?_) (fun b hb => ?_)
      · rw [List.take_append_drop] at h1
        exact h1.symm
      · obtain ⟨i, hi, ea⟩ := mem_take_at ha
        exact g (h.lt_trans hlt (sorted_le h hs (by omega) ea e))
      · obtain ⟨i, hi, eb⟩ := mem_drop_at hb
        exact hab i b hi eb
end Go.Proofs.YtoepbjgldmgaoaaDoor.Srt

/- slices' stable sort over a block of objects: blocks of twenty, put in order by insertion, then merged. -/
namespace Go.Proofs.YtoepbjgldmgaoaaDoor
open Go.RowKit Go.Proofs.YtoepbjgldmgaoaaDoorW.PrintWords Go.Proofs.YtoepbjgldmgaoaaDoorW.PrintLast
def StI (D : Array Value → Prop) (g : Nat) (w wr : World) (R : List (Array Value)) : Prop := RowsAt wr g 32 R ∧ But g w wr ∧ ∀ x ∈ R, D x
theorem ins_seg (f : FuncId) (D : Array Value → Prop) (c : Array Value → Array Value → Int) (hcmp : CmpAt f D c) (hc : Wc.IsCmp c) (g cap len : Nat) (hcap : len ≤ cap) (hn : len ≤ 1099511627776) (R : List (Array Value)) (hl : R.length = len) (w W : World) (hS : StI D g w W R) (a b : Nat) (hab : a ≤ b) (hb : b ≤ len) (za zb : Int) (ha : za = a) (hz : zb = b) :
    Calls Tryd.prog 105 #[.slice (some ⟨g, 0, none⟩) len cap, .int .i64 za, .int .i64 zb, .func (.func f) #[] #[]] W fun e w' =>
      (∃ v, e = .returned v) ∧ StI D g w w' (R.take a ++ Srt.isort c ((R.drop a).take (b - a)) ++ R.drop b) := by
  subst hl; subst ha; subst hz
  refine (insSort_calls f D c hcmp hc R hS.2.2 g cap a b hab hb hcap hn W hS.1).mono ?_
  rintro e w' ⟨hv, hR, hB⟩
  refine ⟨hv, hR, hS.2.1.trans hB, fun x hx => hS.2.2 x ?_⟩
  rcases List.mem_append.1 hx with hx | hx
  · rcases List.mem_append.1 hx with hx | hx
    · exact List.mem_of_mem_take hx
    · exact List.mem_of_mem_drop (List.mem_of_mem_take ((Srt.mem_isort x _).1 hx))
  · exact List.mem_of_mem_drop hx
theorem merge_seg (f : FuncId) (D : Array Value → Prop) (c : Array Value → Array Value → Int) (hcmp : CmpAt f D c) (hc : Wc.IsCmp c) (g cap len : Nat) (hcap : len ≤ cap) (hn : len ≤ 1099511627776) (R : List (Array Value)) (hl : R.length = len) (w W : World) (hS : StI D g w W R) (a k q : Nat) (hk : 0 < k) (hq : 0 < q) (hle : a + k + q ≤ len)
    (sA : Srt.Sorted c (Srt.seg R a k)) (sB : Srt.Sorted c (Srt.seg R (a + k) q)) (za zc zb : Int) (ha : za = a) (hz : zc = a + k) (hb : zb = a + k + q) :
    Calls Tryd.prog 106 #[.slice (some ⟨g, 0, none⟩) len cap, .int .i64 za, .int .i64 zc, .int .i64 zb, .func (.func f) #[] #[]] W fun e w' =>
      (∃ v, e = .returned v) ∧ StI D g w w' (R.take a ++ Srt.merge c (Srt.seg R a k) (Srt.seg R (a + k) q) ++ R.drop (a + k + q)) := by
  have lA : (Srt.seg R a k).length = k := by rw [Srt.seg_length]; omega
  have lB : (Srt.seg R (a + k) q).length = q := by rw [Srt.seg_length]; omega
  have lX : (R.take a).length = a := by rw [List.length_take]; omega
  have e : R.take a ++ Srt.seg R a k ++ Srt.seg R (a + k) q ++ R.drop (a + k + q) = R := by
    rw [List.append_assoc (R.take a), ← Srt.seg_cut, Nat.add_assoc, Srt.seg_split]
  have mA : ∀ y ∈ Srt.seg R a k, y ∈ R := fun y hy => List.mem_of_mem_drop (List.mem_of_mem_take hy)
  have mB : ∀ y ∈ Srt.seg R (a + k) q, y ∈ R := fun y hy => List.mem_of_mem_drop (List.mem_of_mem_take hy)
  have hW := hS.1
  rw [← e] at hW
  refine (sym_calls f D c hcmp hc g cap (k + q) (R.take a) (Srt.seg R a k) (Srt.seg R (a + k) q) (R.drop (a + k + q)) (by omega) (by omega) (by omega) sA sB (fun y hy => hS.2.2 y (mA y hy)) (fun y hy => hS.2.2 y (mB y hy)) len (by rw [e, hl]) hcap hn za zc zb (by omega) (by omega) (by omega) W hW).mono ?_
  rintro e' w' ⟨hv, hR, hB⟩
  refine ⟨hv, hR, hS.2.1.trans hB, fun x hx => hS.2.2 x ?_⟩
  rcases List.mem_append.1 hx with hx | hx
  · rcases List.mem_append.1 hx with hx | hx
    · exact List.mem_of_mem_take hx
    · rcases (Srt.mem_merge c x _ _ _ (Nat.le_refl _)).1 hx with hx | hx
      · exact mA x hx
      · exact mB x hx
  · exact List.mem_of_mem_drop hx
set_option maxHeartbeats 8000000 in
set_option maxRecDepth 100000 in
theorem stable_calls (f : FuncId) (D : Array Value → Prop) (c : Array Value → Array Value → Int) (hcmp : CmpAt f D c) (hc : Wc.IsCmp c) (g cap len : Nat) (hcap : len ≤ cap) (hn : len ≤ 1099511627776) (L : List (Array Value)) (hl : L.length = len) (w W0 : World) (hS : StI D g w W0 L) (n : Int) (hnn : n = len) :
    Calls Tryd.prog 82 #[.slice (some ⟨g, 0, none⟩) len cap, .int .i64 n, .func (.func f) #[] #[]] W0 fun e w' =>
      (∃ v, e = .returned v) ∧ StI D g w w' (Srt.isort c L) := by
  have QI := Lib.hid (fun (R : List (Array Value)) (h : R.length = len) (W : World) => ins_seg f D c hcmp hc g cap len hcap hn R h w W)
  have QM := Lib.hid (fun (R : List (Array Value)) (h : R.length = len) (W : World) => merge_seg f D c hcmp hc g cap len hcap hn R h w W)
  have HS := Lib.hid hS
  have HN := Lib.hid (And.intro hl (And.intro hn (And.intro hnn hc)))
  clear hcmp hS hl hn hnn hc hcap
  go_enter Tryd.func82, Tryd.ntmps82
  go_wp2
  go_loopw [7, 8] (fun v7 v8 wr => ∃ (za zb : Int), v7 = .int .i64 za ∧ v8 = .int .i64 zb ∧ Hid (∃ (R : List (Array Value)) (a j : Nat), za = a ∧ zb = a + 20 ∧ a = j * 20 ∧ a ≤ len ∧ Srt.Begun c 20 a L R ∧ StI D g w wr R)) (fun v7 _ _ => (n - intOf v7).toNat)
  case atStart => exact ⟨_, _, rfl, rfl, Lib.hid ⟨L, 0, 0, rfl, rfl, rfl, Nat.zero_le _, Srt.Begun.start 20 (by omega) L, HS.out⟩⟩
  case round =>
    obtain ⟨za, zb, rfl, rfl, hI⟩ := hrel
    obtain ⟨R, a, j, h1, h2, h3, h4, h5, h6⟩ := hI.out
    obtain ⟨n1, n2, n3, n4⟩ := HN.out
    have hll := h5.len
    by_cases hlt : zb ≤ n
    · have d1 : decide (zb ≤ n) = true := decide_eq_true hlt
      obtain ⟨zb2, hzb2⟩ : ∃ z : Int, z = zb + 20 := ⟨_, rfl⟩
      have e1 : wrap64 (zb + 20) = zb2 := by unfold wrap64; omega
      have HQ := Lib.hid (QI.out R (by omega) wr h6 a (a + 20) (by omega) (by omega) za zb h1 (by omega))
      have HB := Lib.hid (h5.next j h3 (by omega) (by omega))
      have HA := Lib.hid (And.intro h1 (And.intro h2 (And.intro h3 (And.intro h4 (And.intro hzb2 (And.intro hlt (And.intro n1 (And.intro n2 n3))))))))
      clear hI h1 h2 h3 h4 h5 h6 n1 n2 n3 n4 hll hzb2 hlt
      go_wp2_with (go_at_call 105; (with_reducible refine HQ.out.mono ?_); rintro e w7 ⟨⟨v7, rfl⟩, hR7⟩)
      obtain ⟨h1, h2, h3, h4, h5, h6, n1, n2, n3⟩ := HA.out
      go_roundw
      case rel => exact ⟨zb, zb2, rfl, by first | rfl | rw [e1], Lib.hid ⟨_, a + 20, j + 1, by omega, by omega, by omega, by omega, HB.out, hR7⟩⟩
      case measure => simp [intOf]; omega
    · have d1 : decide (zb ≤ n) = false := decide_eq_false hlt
      have HQ := Lib.hid (QI.out R (by omega) wr h6 a len (by omega) (by omega) za n h1 (by omega))
      have HB : Hid (Srt.Blocks c 20 L (R.take a ++ Srt.isort c ((R.drop a).take (len - a)) ++ R.drop len)) := by
        have h7 := h5.last j h3 (by omega) (by omega) (by omega)
        rw [n1] at h7
        exact Lib.hid h7
      clear hI h1 h2 h3 h4 h5 h6 n1 n2 n3 n4 hll hlt
      go_wp2_with (go_at_call 105; (with_reducible refine HQ.out.mono ?_); rintro e w7 ⟨⟨v7, rfl⟩, hR7⟩)
      have HR7 : Hid (∃ R, Srt.Blocks c 20 L R ∧ StI D g w w7 R) := Lib.hid ⟨_, HB.out, hR7⟩
      clear HQ HB hR7
      clear d1
      go_loopw [6] (fun v6 wr => ∃ zk : Int, v6 = .int .i64 zk ∧ Hid (∃ (R : List (Array Value)) (k : Nat), zk = k ∧ 20 ≤ k ∧ k ≤ 2199023255552 ∧ Srt.Blocks c k L R ∧ StI D g w wr R)) (fun v6 _ => (n - intOf v6).toNat)
      case atStart =>
        obtain ⟨R, h1, h2⟩ := HR7.out
        exact ⟨_, rfl, Lib.hid ⟨R, 20, rfl, by omega, by omega, h1, h2⟩⟩
      case round =>
        clear HR7
        obtain ⟨zk, rfl, hI⟩ := hrel
        by_cases hlt : zk < n
        · have d1 : decide (zk < n) = true := decide_eq_true hlt
          obtain ⟨R0, k, h1, h2, h3, h4, h5⟩ := hI.out
          obtain ⟨zm, hzm⟩ : ∃ zm : Int, zm = 2 * zk := ⟨_, rfl⟩
          have e1 : wrap64 (2 * zk) = zm := by unfold wrap64; omega
          have e1' : wrap64 (zk * 2) = zm := by unfold wrap64; omega
          have HA := Lib.hid (And.intro h1 (And.intro h2 (And.intro h3 (And.intro hzm hlt))))
          have HP := Lib.hid (And.intro (h4.part (by omega)) h5)
          clear hI h1 h2 h3 h4 h5 hlt hzm
          obtain ⟨wo, hwo⟩ : ∃ wo : World, wo = wr := ⟨_, rfl⟩
          subst hwo
          go_wp2
          rw [e1]
          go_loopw [7, 8] (fun v7 v8 wq => ∃ (za zb : Int), v7 = .int .i64 za ∧ v8 = .int .i64 zb ∧ Hid (∃ (R : List (Array Value)) (a j : Nat), za = a ∧ zb = a + 2 * k ∧ a = j * (2 * k) ∧ a ≤ len ∧ Srt.Part c (2 * k) k a L R ∧ StI D g w wq R)) (fun v7 _ _ => (n - intOf v7).toNat)
          case atStart => exact ⟨0, zm, rfl, by first | rfl | rw [e1], Lib.hid ⟨R0, 0, 0, rfl, by have := HA.out; omega, by omega, Nat.zero_le _, HP.out.1, HP.out.2⟩⟩
          case round =>
            clear HP
            obtain ⟨za, zb, rfl, rfl, hI⟩ := hrel
            obtain ⟨R, a, j, h1, h2, h3, h4, h5, h6⟩ := hI.out
            obtain ⟨n1, n2, n3, n4⟩ := HN.out
            obtain ⟨k1, k2, k3, k4, k5⟩ := HA.out
            have hll := h5.len
            obtain ⟨zc, hzc⟩ : ∃ z : Int, z = za + zk := ⟨_, rfl⟩
            have e2 : wrap64 (za + zk) = zc := by unfold wrap64; omega
            have ea : a = (2 * j) * k := by rw [h3, Nat.mul_left_comm, ← Nat.mul_assoc]
            have eb : a + k = (2 * j + 1) * k := by rw [Nat.add_mul, Nat.one_mul, ← ea]
            have sA : Srt.Sorted c (Srt.seg R a k) := by
              rw [ea, h5.snd (2 * j) (by omega)]
              exact Srt.isort_sorted n4 _
            have sB : Srt.Sorted c (Srt.seg R (a + k) k) := by
              rw [eb, h5.snd (2 * j + 1) (by omega)]
              exact Srt.isort_sorted n4 _
            by_cases hlt : zb ≤ n
            · have d2 : decide (zb ≤ n) = true := decide_eq_true hlt
              obtain ⟨zb2, hzb2⟩ : ∃ z : Int, z = zb + zm := ⟨_, rfl⟩
              have e3 : wrap64 (zb + zm) = zb2 := by unfold wrap64; omega
              have HQ := Lib.hid (QM.out R (by omega) wr h6 a k k (by omega) (by omega) (by omega) sA sB za zc zb (by omega) (by omega) (by omega))
              have HB := Lib.hid (h5.next n4 j h3 (by omega) (by omega))
              rw [show a + 2 * k = a + k + k by omega] at HB
              have HC := Lib.hid (And.intro h1 (And.intro h2 (And.intro h3 (And.intro h4 (And.intro hzb2 (And.intro hlt (And.intro n1 (And.intro n2 n3))))))))
              clear hI h1 h2 h3 h4 h5 h6 n1 n2 n3 n4 hll hzb2 hlt k1 k2 k3 k4 k5 hzc ea eb sA sB
              go_wp2_with (go_at_call 106; (with_reducible refine HQ.out.mono ?_); rintro e w7 ⟨⟨v7, rfl⟩, hR7⟩)
              obtain ⟨h1, h2, h3, h4, h5, h6, n1, n2, n3⟩ := HC.out
              have k1 := HA.out
              go_roundw
              case rel => exact ⟨zb, zb2, rfl, by first | rfl | rw [e3], Lib.hid ⟨_, a + k + k, j + 1, by omega, by omega, by rw [Nat.add_mul]; omega, by omega, HB.out, hR7⟩⟩
              case measure => simp [intOf]; omega
            · have d2 : decide (zb ≤ n) = false := decide_eq_false hlt
              by_cases hlt2 : zc < n
              · have d3 : decide (zc < n) = true := decide_eq_true hlt2
                have sB2 : Srt.seg R (a + k) (len - (a + k)) = R.drop (a + k) := Srt.seg_all _ _ _ (by omega)
                have sB3 : Srt.seg R (a + k) k = R.drop (a + k) := Srt.seg_all _ _ _ (by omega)
                have HQ := Lib.hid (QM.out R (by omega) wr h6 a k (len - (a + k)) (by omega) (by omega) (by omega) sA (by rw [sB2, ← sB3]; exact sB) za zc n (by omega) (by omega) (by omega))
                have HB : Hid (Srt.Blocks c (2 * k) L (R.take a ++ Srt.merge c (Srt.seg R a k) (Srt.seg R (a + k) (len - (a + k))) ++ R.drop (a + k + (len - (a + k))))) := by
                  have h7 := h5.most n4 j h3 (by omega) (by omega) (by omega)
                  rw [sB2, show R.drop (a + k + (len - (a + k))) = [] from List.drop_eq_nil_of_le (by omega)]
                  exact Lib.hid h7
                clear hI h1 h2 h3 h4 h5 h6 n1 n2 n3 n4 hll hlt hlt2 k1 k2 k3 k4 k5 hzc ea eb sA sB sB2 sB3
                go_wp2_with (go_at_call 106; (with_reducible refine HQ.out.mono ?_); rintro e w7 ⟨⟨v7, rfl⟩, hR7⟩)
                have k1 := HA.out
                have n1 := HN.out
                go_roundw
                case rel => exact ⟨zm, by first | rfl | rw [e1'], Lib.hid ⟨_, 2 * k, by omega, by omega, by omega, HB.out, hR7⟩⟩
                case measure => simp [intOf]; omega
              · have d3 : decide (zc < n) = false := decide_eq_false hlt2
                have HB := Lib.hid (And.intro (h5.none_ n4 j h3 (by omega) (by omega)) h6)
                clear hI h1 h2 h3 h4 h5 h6 n1 n2 n3 n4 hll hlt hlt2 k1 k2 k3 k4 k5 hzc ea eb sA sB
                go_wp2
                have k1 := HA.out
                have n1 := HN.out
                go_roundw
                case rel => exact ⟨zm, by first | rfl | rw [e1'], Lib.hid ⟨_, 2 * k, by omega, by omega, by omega, HB.out.1, HB.out.2⟩⟩
                case measure => simp [intOf]; omega
        · have d1 : decide (zk < n) = false := decide_eq_false hlt
          go_wp2
          obtain ⟨R, k, h1, h2, h3, h4, h5⟩ := hI.out
          obtain ⟨n1, n2, n3, n4⟩ := HN.out
          have h6 := h4.end_ (by omega)
          rw [h6] at h5
          exact ⟨rfl, .tuple #[], by simp [results, Tryd.results82], ⟨_, rfl⟩, h5⟩
end Go.Proofs.YtoepbjgldmgaoaaDoor

/- The library's stable sort, over rows of the call's own: what they are is sorted, all else stays. -/
namespace Go.Proofs.YtoepbjgldmgaoaaDoor
open Go.RowKit Go.Proofs.YtoepbjgldmgaoaaDoorW.PrintWords Go.Proofs.YtoepbjgldmgaoaaDoorW.PrintLast
abbrev flat (L : List (Array Value)) : List Value := L.flatMap Array.toList
theorem flat_length (L : List (Array Value)) (h : ∀ x ∈ L, x.size = 32) : (flat L).length = L.length * 32 := by
  induction L with
  | nil => rfl
  | cons x L ih =>
    rw [flat, List.flatMap_cons, List.length_append, Array.length_toList, h x List.mem_cons_self, ih (fun y hy => h y (List.mem_cons_of_mem _ hy)), List.length_cons]
    omega
theorem flat_drop (L : List (Array Value)) (h : ∀ x ∈ L, x.size = 32) (j : Nat) : (flat L).drop (j * 32) = flat (L.drop j) := by
  induction j generalizing L with
  | zero => simp
  | succ j ih =>
    cases L with
    | nil => simp [flat]
    | cons x L =>
      have hx : x.toList.length = 32 := by rw [Array.length_toList, h x List.mem_cons_self]
      rw [flat, List.flatMap_cons, show (j + 1) * 32 = x.toList.length + j * 32 by omega, ← List.drop_drop, List.drop_left, List.drop_succ_cons]
      exact ih L (fun y hy => h y (List.mem_cons_of_mem _ hy))
theorem flat_at (L : List (Array Value)) (h : ∀ x ∈ L, x.size = 32) (j : Nat) (x : Array Value) (hj : L[j]? = some x) : ((flat L).drop (j * 32)).take 32 = x.toList := by
  obtain ⟨hlt, rfl⟩ := List.getElem?_eq_some_iff.1 hj
  have hx : (L[j]).toList.length = 32 := by rw [Array.length_toList, h _ (List.getElem_mem hlt)]
  rw [flat_drop L h, List.drop_eq_getElem_cons hlt, flat, List.flatMap_cons, ← hx, List.take_left]
theorem flat_get (L : List (Array Value)) (h : ∀ x ∈ L, x.size = 32) (j : Nat) (x : Array Value) (hj : L[j]? = some x) (i : Nat) (hi : i < 32) : (flat L)[j * 32 + i]? = x[i]? := by
  have h1 := flat_at L h j x hj
  have h2 : ((flat L).drop (j * 32)).take 32 = x.toList := h1
  have h3 : (((flat L).drop (j * 32)).take 32)[i]? = x.toList[i]? := by rw [h2]
  rw [List.getElem?_take, if_pos hi, List.getElem?_drop] at h3
  rw [h3]
  simp
theorem own_rows {w : World} {base e n g cap : Nat} {L : List (Array Value)} (ho : w.ownsRow base e 32 (.slice (some ⟨g, 0, none⟩) n cap) n (flat L)) (hn : L.length = n) (h1 : ∀ x ∈ L, x.size = 32 ∧ x.all (·.oneCell') = true) : RowsAt w g 32 L where
  one := h1
  row := fun j x hj i v hi => by
    have hlt := (List.getElem?_eq_some_iff.1 hj).1
    have hs := (h1 x (List.mem_of_getElem? hj)).1
    have hi2 : i < 32 := by
      have := (List.getElem?_eq_some_iff.1 hi).1
      rw [Array.length_toList, hs] at this
      exact this
    rw [ho.cellAt (j * 32 + i) (by omega), flat_get L (fun y hy => (h1 y hy).1) j x hj i hi2]
    simpa using hi
  there := fun j hj i hi => by
    refine ⟨?_, ho.frozenAt _⟩
    rw [ho.cellAt (j * 32 + i) (by omega), List.getElem?_eq_getElem (by rw [flat_length L (fun y hy => (h1 y hy).1)]; omega)]
    rfl
theorem rows_own {w w' : World} {base e n g cap : Nat} {inner : List Value} {L : List (Array Value)} (ho : w.ownsRow base e 32 (.slice (some ⟨g, 0, none⟩) n cap) n inner) (hB : But g w w') (hR : RowsAt w' g 32 L) (hn : L.length = n) : w'.ownsRow base e 32 (.slice (some ⟨g, 0, none⟩) n cap) n (flat L) := by
  have hs := fun x hx => (hR.one x hx).1
  refine ⟨by rw [flat_length L hs, hn], ?_⟩
  rcases ho.2 with ⟨h0, _⟩ | ⟨g', cap', cur, he, hb, hh, hnc, hcm, hcs, _⟩
  · cases h0
  · injection he with e1 _ e3
    injection e1 with e1
    injection e1 with e1
    subst e1; subst e3
    obtain ⟨cur', h', hs'⟩ := hB.shape cur e (0, 0) hh
    refine .inr ⟨g, cap, cur', rfl, hb, h', hnc, hcm, hs'.trans hcs, ?_⟩
    have hle : n * 32 ≤ cap * 32 := Nat.mul_le_mul_right _ hnc
    refine List.ext_getElem? (fun i => ?_)
    rcases Nat.lt_or_ge i (n * 32) with hi | hi
    · rw [List.getElem?_take, if_pos hi]
      have hj : i / 32 < L.length := by omega
      have hx : L[i / 32]? = some L[i / 32] := List.getElem?_eq_getElem hj
      have h3 := flat_get L hs (i / 32) _ hx (i % 32) (Nat.mod_lt _ (by omega))
      rw [show i / 32 * 32 + i % 32 = i by omega] at h3
      have hxs := hs _ (List.getElem_mem hj)
      have h4 : (L[i / 32])[i % 32]? = some (L[i / 32])[i % 32] := Array.getElem?_eq_getElem (by rw [hxs]; exact Nat.mod_lt _ (by omega))
      have h5 := hR.row (i / 32) _ hx (i % 32) _ (by rw [Array.getElem?_toList]; exact h4)
      rw [show i / 32 * 32 + i % 32 = i by omega, cell_of_row _ _ i _ _ _ h'] at h5
      rw [h3, h4, Array.getElem?_toList]
      exact h5
    · rw [List.getElem?_eq_none (by rw [List.length_take]; omega), List.getElem?_eq_none (by rw [flat_length L hs]; omega)]
theorem ins_zero (f : FuncId) (A : Option Addr) (c : Nat) (w : World) : Calls Tryd.prog 105 #[.slice A 0 c, .int .i64 0, .int .i64 0, .func (.func f) #[] #[]] w fun e w' => (∃ v, e = .returned v) ∧ w' = w := by
  go_enter Tryd.func105, Tryd.ntmps105
  go_wp2
  go_loop [8] (fun v => v = .int .i64 1) (fun _ => 0)
  case atStart => rfl
  case round =>
    subst hrel
    go_wp2
    exact ⟨rfl, .tuple #[], by simp [results, Tryd.results105], ⟨_, rfl⟩, rfl⟩
theorem stable_zero (f : FuncId) (A : Option Addr) (c : Nat) (w : World) : Calls Tryd.prog 82 #[.slice A 0 c, .int .i64 0, .func (.func f) #[] #[]] w fun e w' => (∃ v, e = .returned v) ∧ w' = w := by
  go_enter Tryd.func82, Tryd.ntmps82
  go_wp2
  go_loop [7, 8] (fun v7 v8 => v7 = .int .i64 0 ∧ v8 = .int .i64 20) (fun _ _ => 0)
  case atStart => exact ⟨rfl, rfl⟩
  case round =>
    obtain ⟨rfl, rfl⟩ := hrel
    go_wp2_with (go_at_call 105; (with_reducible refine (ins_zero f A c _).mono ?_); rintro e w7 ⟨⟨v7, rfl⟩, rfl⟩)
    go_loop [6] (fun v6 => v6 = .int .i64 20) (fun _ => 0)
    case atStart => rfl
    case round =>
      subst hrel
      go_wp2
      exact ⟨rfl, .tuple #[], by simp [results, Tryd.results82], ⟨_, rfl⟩, rfl⟩
theorem sort_zero (f : FuncId) (A : Option Addr) (c : Nat) (w : World) : Calls Tryd.prog 43 #[.slice A 0 c, .func (.func f) #[] #[]] w fun e w' => (∃ v, e = .returned v) ∧ w' = w := by
  go_enter Tryd.func43, Tryd.ntmps43
  go_wp2_with (go_at_call 82; (with_reducible refine (stable_zero f A c _).mono ?_); rintro e w7 ⟨⟨v7, rfl⟩, rfl⟩)
  exact ⟨rfl, .tuple #[], by simp [results, Tryd.results43], ⟨_, rfl⟩, rfl⟩
theorem sort_rows (f : FuncId) (D : Array Value → Prop) (c : Array Value → Array Value → Int) (hcmp : CmpAt f D c) (hc : Wc.IsCmp c) (g cap len : Nat) (hcap : len ≤ cap) (hn : len ≤ 1099511627776) (L : List (Array Value)) (hl : L.length = len) (w : World) (hR : RowsAt w g 32 L) (hD : ∀ x ∈ L, D x) :
    Calls Tryd.prog 43 #[.slice (some ⟨g, 0, none⟩) len cap, .func (.func f) #[] #[]] w fun e w' => (∃ v, e = .returned v) ∧ RowsAt w' g 32 (Srt.isort c L) ∧ But g w w' := by
  have HQ := Lib.hid (fun W (h : StI D g w W L) => stable_calls f D c hcmp hc g cap len hcap hn L hl w W h len rfl)
  have HS : Hid (StI D g w w L) := Lib.hid ⟨hR, But.refl _ _, hD⟩
  have hlen : (len : Int) ≤ 9223372036854775807 := by omega
  clear hcmp hc hcap hn hl hR hD
  go_enter Tryd.func43, Tryd.ntmps43
  go_wp2_with (go_at_call 82; (with_reducible refine (HQ.out _ HS.out).mono ?_); rintro e w7 ⟨⟨v7, rfl⟩, hR7⟩)
  exact ⟨rfl, .tuple #[], by simp [results, Tryd.results43], ⟨_, rfl⟩, hR7.1, hR7.2.1⟩
end Go.Proofs.YtoepbjgldmgaoaaDoor

/- The library's stable sort, over what is made: the things are sorted, all else stays. -/
namespace Go.Proofs.YtoepbjgldmgaoaaDoor
open Go.RowKit Go.Proofs.YtoepbjgldmgaoaaDoorW.PrintWords Go.Proofs.YtoepbjgldmgaoaaDoorW.PrintLast
theorem unflat (n : Nat) (inner : List Value) (h : inner.length = n * 32) : ∃ L : List (Array Value), L.length = n ∧ flat L = inner ∧ ∀ x ∈ L, x.size = 32 := by
  induction n generalizing inner with
  | zero => exact ⟨[], rfl, by rw [List.length_eq_zero_iff.1 (show inner.length = 0 by omega)]; rfl, fun _ hx => absurd hx List.not_mem_nil⟩
  | succ n ih =>
    obtain ⟨L, h1, h2, h3⟩ := ih (inner.drop 32) (by rw [List.length_drop]; omega)
    refine ⟨(inner.take 32).toArray :: L, by rw [List.length_cons, h1], ?_, fun x hx => ?_⟩
    · rw [flat, List.flatMap_cons, show L.flatMap Array.toList = inner.drop 32 from h2]
      exact List.take_append_drop 32 inner
    · rcases List.mem_cons.1 hx with rfl | hx
      · simp
        omega
      · exact h3 x hx
section
variable {α : Type}
theorem sort_pairs (c : α → α → Int) (cf : Array Value → Array Value → Int) (R : α → List Value → Prop) (xs : List α) (L : List (Array Value)) (hl : L.length = xs.length) (hR : ∀ (j : Nat) (x : α) (y : Array Value), xs[j]? = some x → L[j]? = some y → R x y.toList)
    (hcc : ∀ (x y : α) (a b : Array Value), x ∈ xs → y ∈ xs → R x a.toList → R y b.toList → (cf a b < 0 ↔ c x y < 0)) : ∀ (j : Nat) (x : α) (y : Array Value), (Srt.isort c xs)[j]? = some x → (Srt.isort cf L)[j]? = some y → R x y.toList := by
  obtain ⟨zs, hzs⟩ : ∃ zs : List (α × Array Value), zs = xs.zip L := ⟨_, rfl⟩
  have h1 : zs.map Prod.fst = xs := by rw [hzs, List.map_fst_zip (by omega)]
  have h2 : zs.map Prod.snd = L := by rw [hzs, List.map_snd_zip (by omega)]
  have hz : ∀ p ∈ zs, p.1 ∈ xs ∧ R p.1 p.2.toList := by
    intro p hp
    obtain ⟨j, hj⟩ := List.getElem?_of_mem hp
    have e1 : xs[j]? = some p.1 := by rw [← h1, List.getElem?_map, hj]; rfl
    have e2 : L[j]? = some p.2 := by rw [← h2, List.getElem?_map, hj]; rfl
    exact ⟨List.mem_of_getElem? e1, hR j _ _ e1 e2⟩
  have k1 : (Srt.isort (fun p q : α × Array Value => c p.1 q.1) zs).map Prod.fst = Srt.isort c xs := by rw [Srt.isort_map c Prod.fst, h1]
  have k2 : (Srt.isort (fun p q : α × Array Value => c p.1 q.1) zs).map Prod.snd = Srt.isort cf L := by
    rw [Srt.isort_congr (c' := fun p q : α × Array Value => cf p.2 q.2) zs (fun p hp q hq => (hcc _ _ _ _ (hz p hp).1 (hz q hq).1 (hz p hp).2 (hz q hq).2).symm), Srt.isort_map cf Prod.snd, h2]
  intro j x y hx hy
  rw [← k1, List.getElem?_map, Option.map_eq_some_iff] at hx
  rw [← k2, List.getElem?_map, Option.map_eq_some_iff] at hy
  obtain ⟨p, hp, rfl⟩ := hx
  obtain ⟨q, hq, rfl⟩ := hy
  rw [hp] at hq
  obtain rfl := Option.some.inj hq
  exact (hz p ((Srt.mem_isort p zs).1 (List.mem_of_getElem? hp))).2
theorem sort_R (d : Kd α) (hd : d.sz = 32) (f : FuncId) (D : Array Value → Prop) (cf : Array Value → Array Value → Int) (hcmp : CmpAt f D cf) (hcf : Wc.IsCmp cf) (c : α → α → Int) {e base : Nat} {ok : Nat → Prop} {w : World} {v : Value} {xs : List α} (h : d.R e w base ok v xs)
    (hD : ∀ x cs, x ∈ xs → d.K w x cs → D cs.toArray) (hcc : ∀ x y cs ds, x ∈ xs → y ∈ xs → d.K w x cs → d.K w y ds → (cf cs.toArray ds.toArray < 0 ↔ c x y < 0)) (hn : xs.length ≤ 1099511627776) :
    Calls Tryd.prog 43 #[v, .func (.func f) #[] #[]] w fun e' w' =>
      (∃ r, e' = .returned r) ∧ d.R e w' base ok v (Srt.isort c xs) ∧ Below base w w' ∧ w.heap.size ≤ w'.heap.size ∧ ∀ k, some k ≠ v.ownBlock → k < w.heap.size → w'.heap[k]? = w.heap[k]? := by
  obtain ⟨h0, inner, ho, hr⟩ := h
  rw [hd] at ho hr
  rcases ho.2 with ⟨rfl, hl0⟩ | ⟨g, cap, cur, rfl, hb, hh, hnc, hcm, hcs, ht⟩
  · obtain rfl : xs = [] := List.eq_nil_of_length_eq_zero hl0
    refine (sort_zero f none 0 w).mono ?_
    rintro e' w' ⟨hv, rfl⟩
    exact ⟨hv, Kd.R_nil _ _ _ _ _, Below.refl _ _, Nat.le_refl _, fun _ _ _ => rfl⟩
  · obtain ⟨L, hL, rfl, hs⟩ := unflat xs.length inner ho.1
    have hM : ∀ (j : Nat) (x : α) (y : Array Value), xs[j]? = some x → L[j]? = some y → d.M w base (fun k => ok k ∧ some k ≠ (Value.slice (some ⟨g, 0, none⟩) xs.length cap).ownBlock) x y.toList := by
      intro j x y hx hy
      have := hr.2 j x hx
      rw [flat_at L hs j y hy] at this
      exact this
    have hx : ∀ y ∈ L, ∃ x ∈ xs, d.M w base (fun k => ok k ∧ some k ≠ (Value.slice (some ⟨g, 0, none⟩) xs.length cap).ownBlock) x y.toList := by
      intro y hy
      obtain ⟨j, hj⟩ := List.getElem?_of_mem hy
      have hjl := (List.getElem?_eq_some_iff.1 hj).1
      have e1 : xs[j]? = some xs[j] := List.getElem?_eq_getElem (by omega)
      exact ⟨_, List.getElem_mem (by omega), hM j _ _ e1 hj⟩
    have h1 : ∀ y ∈ L, y.size = 32 ∧ y.all (·.oneCell') = true := by
      intro y hy
      obtain ⟨x, _, hm⟩ := hx y hy
      exact ⟨hs y hy, all_oneCell_toArray (d.K_one (d.K_of_M hm))⟩
    have hRA := own_rows ho hL h1
    refine (sort_rows f D cf hcmp hcf g cap xs.length hnc hn L hL w hRA (fun y hy => ?_)).mono ?_
    · obtain ⟨x, hxx, hm⟩ := hx y hy
      have := hD x _ hxx (d.K_of_M hm)
      simpa using this
    · rintro e' w' ⟨hv, hR', hB⟩
      have hb' : ∀ k, some k ≠ (Value.slice (some ⟨g, 0, none⟩) xs.length cap).ownBlock → k < w.heap.size → w'.heap[k]? = w.heap[k]? := fun k hk hlt => hB.block k hlt (fun e => hk (by rw [e]; rfl))
      have ho' := rows_own ho hB hR' (by rw [Srt.isort_length, hL])
      have hlt : g < w.heap.size := blkLt hh
      refine ⟨hv, ⟨h0, flat (Srt.isort cf L), ?_, ?_⟩, But.below (Below.refl _ _) hB hb (by omega), hB.size, hb'⟩
      · rw [Srt.isort_length, hd]
        exact ho'
      · rw [hd]
        refine ⟨by rw [flat_length _ (fun y hy => (hR'.one y hy).1), Srt.isort_length, Srt.isort_length, hL], fun j x hj => ?_⟩
        have hjl := (List.getElem?_eq_some_iff.1 hj).1
        rw [Srt.isort_length] at hjl
        obtain ⟨y, hy⟩ : ∃ y, (Srt.isort cf L)[j]? = some y := ⟨_, List.getElem?_eq_getElem (by rw [Srt.isort_length]; omega)⟩
        rw [flat_at _ (fun y hy => (hR'.one y hy).1) j _ hy]
        have := sort_pairs c cf (d.M w base (fun k => ok k ∧ some k ≠ (Value.slice (some ⟨g, 0, none⟩) xs.length cap).ownBlock)) xs L hL hM (fun x y a b hx hy ha hb => hcc x y _ _ hx hy (d.K_of_M ha) (d.K_of_M hb)) j x _ hj hy
        exact Kd.M_step this (fun k hk hlt => hb' k hk.2 hlt)
theorem S_of_tags {d : Kd α} {e base : Nat} {ok : Nat → Prop} {w : World} {v : Value} {f : Nat → Nat} {L : List (α × Nat)} (h : (Kd.tag f d).R e w base ok v L) (hn : (L.map Prod.snd).Nodup) : Kd.S d e w base ok v (L.map Prod.fst) := by
  obtain ⟨h0, inner, ho, hr⟩ := h
  refine ⟨fun k => (L.map Prod.snd).idxOf (f k), h0, inner, by rw [List.length_zipIdx, List.length_map]; exact ho, ?_, fun j p hj => ?_⟩
  · rw [List.length_zipIdx, List.length_map]
    exact hr.1
  · rw [List.getElem?_zipIdx, Nat.zero_add, Option.map_eq_some_iff] at hj
    obtain ⟨x, hx, rfl⟩ := hj
    rw [List.getElem?_map, Option.map_eq_some_iff] at hx
    obtain ⟨q, hq, rfl⟩ := hx
    have := hr.2 j q hq
    refine d.M_mono (fun k hk => ⟨hk.1, ?_⟩) this
    have e2 : (L.map Prod.snd)[j]? = some q.2 := by rw [List.getElem?_map, hq]; rfl
    obtain ⟨hjl, he⟩ := List.getElem?_eq_some_iff.1 e2
    show (L.map Prod.snd).idxOf (f k) = j
    rw [hk.2, ← he]
    exact hn.idxOf_getElem j hjl
theorem zip_snd_nodup (xs : List α) : (xs.zipIdx.map Prod.snd).Nodup := by
  have : xs.zipIdx.map Prod.snd = List.range' 0 xs.length := by simp [List.zipIdx_eq_zip_range', List.map_snd_zip]
  rw [this]
  exact List.nodup_range'
theorem sort_S (d : Kd α) (hd : d.sz = 32) (f : FuncId) (D : Array Value → Prop) (cf : Array Value → Array Value → Int) (hcmp : CmpAt f D cf) (hcf : Wc.IsCmp cf) (c : α → α → Int) {e base : Nat} {ok : Nat → Prop} {w : World} {v : Value} {xs : List α} (h : Kd.S d e w base ok v xs)
    (hD : ∀ x cs, x ∈ xs → d.K w x cs → D cs.toArray) (hcc : ∀ x y cs ds, x ∈ xs → y ∈ xs → d.K w x cs → d.K w y ds → (cf cs.toArray ds.toArray < 0 ↔ c x y < 0)) (hn : xs.length ≤ 1099511627776) :
    Calls Tryd.prog 43 #[v, .func (.func f) #[] #[]] w fun e' w' =>
      (∃ r, e' = .returned r) ∧ Kd.S d e w' base ok v (Srt.isort c xs) ∧ Below base w w' ∧ w.heap.size ≤ w'.heap.size ∧ ∀ k, some k ≠ v.ownBlock → k < w.heap.size → w'.heap[k]? = w.heap[k]? := by
  obtain ⟨t, hR⟩ := h
  have hmem : ∀ p : α × Nat, p ∈ xs.zipIdx → p.1 ∈ xs := fun p hp => by
    obtain ⟨j, hj⟩ := List.getElem?_of_mem hp
    rw [List.getElem?_zipIdx, Nat.zero_add, Option.map_eq_some_iff] at hj
    obtain ⟨x, hx, rfl⟩ := hj
    exact List.mem_of_getElem? hx
  refine (sort_R (Kd.tag t d) hd f D cf hcmp hcf (fun p q => c p.1 q.1) hR (fun p cs hp hK => hD p.1 cs (hmem p hp) hK) (fun p q cs ds hp hq hK hK' => hcc p.1 q.1 cs ds (hmem p hp) (hmem q hq) hK hK') (by rw [List.length_zipIdx]; exact hn)).mono ?_
  rintro e' w' ⟨hv, hR', hr⟩
  have hp := Srt.isort_perm (fun p q : α × Nat => c p.1 q.1) xs.zipIdx
  have h2 := S_of_tags hR' ((hp.map Prod.snd).nodup_iff.2 (zip_snd_nodup xs))
  rw [Srt.isort_map c Prod.fst] at h2
  have e3 : xs.zipIdx.map Prod.fst = xs := by simp
  rw [e3] at h2
  exact ⟨hv, h2, hr⟩
end
end Go.Proofs.YtoepbjgldmgaoaaDoor

/- rank.Victims: the objects that aren't ending, each a copy, in their order; the first ones of them. -/
namespace Go.Proofs.YtoepbjgldmgaoaaDoor
open Go.RowKit Go.Proofs.YtoepbjgldmgaoaaDoorW.PrintWords Go.Proofs.YtoepbjgldmgaoaaDoorW.PrintLast
attribute [local go_sem] Go.Proofs.YtoepbjgldmgaoaaDoorW.PrintMore.max2_int Go.Proofs.YtoepbjgldmgaoaaDoorW.PrintMore.min2_int Go.Proofs.YtoepbjgldmgaoaaDoorW.PrintMore.max_two Go.Proofs.YtoepbjgldmgaoaaDoorW.PrintMore.min_two
theorem infoO : (Tryd.prog.info? 48).map (fun i => (i.zero, i.size, i.bytes)) = some (some (.agg (Ob.zero.cells (.slice none 0 0) (.slice none 0 0))), 32, 312) := by kernel_rfl
theorem infoO1 : (Tryd.prog.info? 48).map (·.size) = some 32 := by kernel_rfl
def live (l : List Ob) : List Ob := l.filter fun o => !o.ending
def sortV (l : List Ob) : List Ob := Srt.isort (fun a b => cV a.pk b.pk) l
def headN (n : Int) (len : Nat) : Nat := min n.toNat len
def victF (l : List Ob) (n : Int) : List Ob := (sortV (live l)).take (headN n (live l).length)
def ObFits (o : Ob) : Prop := o.name.size ≤ 140737488351232 ∧ o.labels.length ≤ 4398046510976 ∧ o.select.length ≤ 4398046510976
theorem kO_is {w : World} {o : Ob} {cs : List Value} (h : kO.K w o cs) (hf : ObFits o) : IsObj cs.toArray := by
  obtain ⟨v4, v27, rfl, _⟩ := h
  exact ⟨o, v4, v27, by simp, hf.1⟩
theorem cells_set (o : Ob) (v4 v27 u4 u27 : Value) : ((o.cells v4 v27).setIfInBounds 4 u4).setIfInBounds 27 u27 = o.cells u4 u27 := rfl
theorem lab_cells {e base : Nat} {ok : Nat → Prop} {w : World} {v : Value} {l : List Lab} (h : kL.R e w base ok v l) : v.cells = #[v] := by
  obtain ⟨A, c, rfl⟩ := Kd.R_slice h
  rfl
def rg21_6_T : Bool × List (List Nat × List Nat) := (true, [([], []), ([0], [0]), ([1], [1]), ([], []), ([3], [3]), ([4, 2], [4]), ([0, 1, 2, 3, 4], []), ([6, 2, 5, 0, 1, 2, 3, 4], [2, 6]), ([0, 1, 2, 3, 4, 5, 6, 7], []), ([8, 5, 7, 0, 1, 2, 3, 4, 5, 6, 7], [5, 8])])
def rg21_6_B : List Nat := [0, 1, 3, 0, 8, 31, 31, 127, 255, 511]
end Go.Proofs.YtoepbjgldmgaoaaDoor

/- Objects that are lent: their lists in memory of their own, marks behind them. -/
namespace Go.Proofs.YtoepbjgldmgaoaaDoor
open Go.RowKit Go.Proofs.YtoepbjgldmgaoaaDoorW.PrintWords Go.Proofs.YtoepbjgldmgaoaaDoorW.PrintLast
def kLent : Kd Ob where
  sz := 32
  E := [98]
  K := fun w o cs => ∃ v4 v27, cs = (o.cells v4 v27).toList ∧ LentK w o.labels v4 ∧ LentK w o.select v27
  M := fun w base ok o cs => ∃ v4 v27, cs = (o.cells v4 v27).toList ∧ LentR w base (fun k => ok k ∧ some k ≠ v27.ownBlock) o.labels v4 ∧ LentR w base (fun k => ok k ∧ some k ≠ v4.ownBlock) o.select v27
  K_len := by
    rintro w x cs ⟨v4, v27, rfl, _⟩
    rfl
  K_one := by
    rintro w x cs ⟨v4, v27, rfl, h4, h27⟩ u hu
    exact (Array.all_eq_true_iff_forall_mem.1 (x.cells_one h4.lab.one h27.lab.one)) u (by simpa using hu)
  K_below := by
    rintro w w1 x cs hb ⟨v4, v27, rfl, h4, h27⟩
    exact ⟨v4, v27, rfl, h4.below hb, h27.below hb⟩
  K_of_M := by
    rintro w base ok x cs ⟨v4, v27, rfl, h4, h27⟩
    exact ⟨v4, v27, rfl, h4.lent, h27.lent⟩
  M_mono := by
    rintro w base ok ok' x cs hok ⟨v4, v27, rfl, h4, h27⟩
    exact ⟨v4, v27, rfl, h4.mono (fun k hk => ⟨hok k hk.1, hk.2⟩), h27.mono (fun k hk => ⟨hok k hk.1, hk.2⟩)⟩
  M_bound := by
    rintro w base ok x cs ⟨v4, v27, rfl, h4, h27⟩
    exact ⟨v4, v27, rfl, h4.bound.mono (fun k hk => ⟨⟨hk.1.1, hk.2⟩, hk.1.2⟩), h27.bound.mono (fun k hk => ⟨⟨hk.1.1, hk.2⟩, hk.1.2⟩)⟩
  M_move := by
    rintro w w1 base ok x cs hm ⟨v4, v27, rfl, h4, h27⟩
    exact ⟨v4, v27, rfl, h4.move (fun k hk => hm k hk.1), h27.move (fun k hk => hm k hk.1)⟩
  M_lower := by
    rintro w base base' ok x cs hb ⟨v4, v27, rfl, h4, h27⟩
    exact ⟨v4, v27, rfl, h4.lower hb, h27.lower hb⟩
theorem kLent_K {w : World} {o : Ob} {cs : List Value} (h : kLent.K w o cs) : kO.K w o cs := by
  obtain ⟨v4, v27, rfl, h4, h27⟩ := h
  exact ⟨v4, v27, rfl, h4.lab, h27.lab⟩
theorem kLent_C {w : World} {A : Option Addr} {n : Nat} {l : List Ob} (h : kLent.C w A n l) : kO.C w A n l := Kd.C_imp (d := kLent) (d' := kO) rfl (fun _ _ _ => kLent_K) h
theorem cells_set4 (o : Ob) (v4 v27 u4 : Value) : (o.cells v4 v27).setIfInBounds 4 u4 = o.cells u4 v27 := rfl
theorem cells_set27 (o : Ob) (v4 v27 u27 : Value) : (o.cells v4 v27).setIfInBounds 27 u27 = o.cells v4 u27 := rfl
set_option maxRecDepth 100000 in
set_option maxHeartbeats 2000000 in
theorem lentObject_calls (o : Ob) (v4 v27 : Value) (w : World) (h4 : LabK w o.labels v4) (h27 : LabK w o.select v27) (hf : ObFits o) :
    Calls Tryd.prog 41 #[.agg (o.cells v4 v27)] w fun e w' => ∃ u4 u27, e = .returned (.agg (o.cells u4 u27)) ∧ LentR w' w.heap.size (fun k => some k ≠ u27.ownBlock) o.labels u4 ∧ LentR w' w.heap.size (fun k => some k ≠ u4.ownBlock) o.select u27 ∧ Below w.heap.size w w' := by
  obtain ⟨cs, hcs⟩ : ∃ cs, cs = o.cells v4 v27 := ⟨_, rfl⟩
  have Q4 := Lib.hid (fun (W : World) (hW : Below w.heap.size w W) => lentLabels_calls (h4.below hW) hf.2.1)
  have Q27 := Lib.hid (fun (W : World) (hW : Below w.heap.size w W) => lentLabels_calls (h27.below hW) hf.2.2)
  have h1c := o.cells_one (v4 := v4) (v27 := v27) h4.one h27.one
  rw [← hcs] at h1c ⊢
  have hs : cs.size = 32 := by rw [hcs]; rfl
  have hi1 : Hid ((Tryd.prog.info? 48).map (·.size) = some cs.size) := Lib.hid (by rw [hs]; kernel_rfl)
  have Hcs := Lib.hid (And.intro hcs (And.intro h1c hs))
  have c4 : Hid (cs[4]? = some v4) := Lib.hid (by rw [hcs]; rfl)
  have c27 : Hid (cs[27]? = some v27) := Lib.hid (by rw [hcs]; rfl)
  clear hcs h1c hs h4 h27 hf
  have HM := Lib.hid (Eq.refl 0)
  go_enter Tryd.func41, Tryd.ntmps41
  obtain ⟨zz, hzz⟩ : ∃ zz, zz = Ob.zero.cells (.slice none 0 0) (.slice none 0 0) := ⟨_, rfl⟩
  have Hzz : Hid (zz.size = 32) := Lib.hid (by rw [hzz]; rfl)
  replace hzz := Lib.hid hzz
  go_wp2_with (first
    | ((with_reducible refine gate_ (.load 48 (.tmp 1)) rfl ?_); clear HM; (have HB : Below w.heap.size w ((w.alloc (Obj.cells cs 48)).alloc (Obj.cells zz 48)) := Go.Joins.below_alloc2 w _ _); (have BA : ((w.alloc (Obj.cells cs 48)).alloc (Obj.cells zz 48)).heap[w.heap.size]? = some (.cells cs 48 (0, 0)) := (heap_alloc_old _ _ (by simp)).trans (heap_alloc_new w _)); (have BC : ((w.alloc (Obj.cells cs 48)).alloc (Obj.cells zz 48)).heap[w.heap.size + 1]? = some (.cells zz 48 (0, 0)) := heap_alloc2_new w _ _); (have hW0 : ((w.alloc (Obj.cells cs 48)).alloc (Obj.cells zz 48)) = ((w.alloc (Obj.cells cs 48)).alloc (Obj.cells (Ob.zero.cells (.slice none 0 0) (.slice none 0 0)) 48)) := by rw [hzz.out]); generalize hW1 : ((w.alloc (Obj.cells cs 48)).alloc (Obj.cells zz 48)) = W0 at HB BA BC hW0; (refine Eq.mp (congrArg (fun x => wpList _ _ _ _ _ x) hW0) ?_); clear hW0 hW1; obtain ⟨ga, hga⟩ : ∃ x, x = w.heap.size := ⟨_, rfl⟩; obtain ⟨gc, hgc⟩ : ∃ x, x = w.heap.size + 1 := ⟨_, rfl⟩; rw [← hgc] at BC ⊢; rw [← hga] at BA ⊢; (have La : w.heap.size ≤ ga := by omega); (have Lc : w.heap.size ≤ gc := by omega); (have Nac : ga ≠ gc := by omega); clear hga hgc)
    | ((with_reducible refine wpList_load_blk rfl 48 (.tmp 1) rfl ga 48 ?l1 cs _ ?l2 Tryd.underlying48 ?l3 ?l4 ?_); (case l1 => rfl); (case l2 => exact BA); (case l3 => rfl); (case l4 => exact hi1.out))
    | ((with_reducible refine wpList_store_blk rfl 48 (.tmp 3) (.tmp 4) rfl W0.heap.size 48 ?c0 cs ?c1 ?c2 ?c3 ?c4 ?c5 ?c6 ?_); (case c1 => rfl); (case c2 => rfl); (case c3 => exact heap_alloc_new _ _); (case c4 => exact hi1.out); (case c5 => exact Eq.trans (b := 32) rfl Hcs.out.2.2.symm); (case c6 => exact Hcs.out.2.1); intro w1 BX hk hb hz; have Nax : ga ≠ W0.heap.size := (by have := blkLt BA; omega); have Ncx : gc ≠ W0.heap.size := (by have := blkLt BC; omega); replace BA := (hk _ Nax).trans ((heap_alloc_old _ _ (blkLt BA)).trans BA); replace BC := (hk _ Ncx).trans ((heap_alloc_old _ _ (blkLt BC)).trans BC); have Lx := HB.size; replace HB := hb _ _ (HB.alloc HB.size _) HB.size; clear hk hb hz; obtain ⟨gx, hgx⟩ : ∃ g, g = W0.heap.size := ⟨_, rfl⟩; rw [← hgx] at BX Nax Ncx Lx ⊢; clear hgx)
    | ((with_reducible refine gate_ (.load 43 _) rfl ?_); first | refine wpList_load1_w 43 _ rfl ⟨ga, 4, none⟩ rfl rfl v4 _ ((cell_of_row _ _ 4 _ _ _ BA).trans c4.out) Tryd.underlying43 rfl ?_ | refine wpList_load1_w 43 _ rfl ⟨ga, 27, none⟩ rfl rfl v27 _ ((cell_of_row _ _ 27 _ _ _ BA).trans c27.out) Tryd.underlying43 rfl ?_)
    | (go_at_call 81; (with_reducible refine (Q4.out _ HB).mono ?_); rintro e w2 ⟨u4, rfl, H4, hb⟩; obtain ⟨g4, hg4, hb4, hl4⟩ := H4.own; have Nx4 : gx ≠ g4 := (by have := blkLt BX; omega); have Nc4 : gc ≠ g4 := (by have := blkLt BC; omega); have L4 : w.heap.size ≤ g4 := (by have := HB.size; omega); have H4t := H4.lower HB.size; clear H4 hb4; replace BA := blkB hb BA; replace BC := blkB hb BC; replace BX := blkB hb BX; replace HB := belT HB hb; clear hb Q4)
    | (go_at_call 81; (with_reducible refine (Q27.out _ HB).mono ?_); rintro e w3 ⟨u27, rfl, H27, hb⟩; obtain ⟨g27, hg27, hb27, hl27⟩ := H27.own; have Nx27 : gx ≠ g27 := (by have := blkLt BX; omega); have Nc27 : gc ≠ g27 := (by have := blkLt BC; omega); have N4 : g4 ≠ g27 := (by omega); have H27t := H27.lower HB.size; clear H27 hb27; replace H4t := H4t.tight.move (fun k hk => hb.block k (by rw [hg4] at hk; injection hk with hk; omega)); replace BA := blkB hb BA; replace BC := blkB hb BC; replace BX := blkB hb BX; replace HB := belT HB hb; clear hb Q27)
    | ((with_reducible refine wpList_store1 rfl 43 (.tmp 8) (.tmp 7) rfl gx 4 48 cs u4 ?s1 ?s2 ?s3 ?s4 ?s5 ?s6 ?s7 ?_); (case s1 => rfl); (case s2 => rfl); (case s3 => exact H4t.cells.1); (case s4 => exact BX); (case s5 => (rw [Hcs.out.2.2]; omega)); (case s6 => kernel_rfl); (case s7 => exact H4t.cells.2); intro w4 BX' hk hb hz; rw [Hcs.out.1, cells_set4] at BX'; replace BX := BX'; replace BA := (hk _ Nax).trans BA; replace BC := (hk _ Ncx).trans BC; replace H4t := H4t.tight.move (fun k hk' => hk k (by rw [hg4] at hk'; injection hk' with hk'; omega)); replace HB := hb _ _ HB Lx; have hl4' : g4 < w4.heap.size := (by omega); clear hk hb hz BX' hl4)
    | ((with_reducible refine wpList_store1 rfl 43 (.tmp 12) (.tmp 11) rfl gx 27 48 (o.cells u4 v27) u27 ?s1 ?s2 ?s3 ?s4 ?s5 ?s6 ?s7 ?_); (case s1 => rfl); (case s2 => rfl); (case s3 => exact H27t.cells.1); (case s4 => exact BX); (case s5 => (rw [Ob.cells_size]; omega)); (case s6 => kernel_rfl); (case s7 => exact H27t.cells.2); intro w5 BX' hk hb hz; rw [cells_set27] at BX'; replace BX := BX'; replace BA := (hk _ Nax).trans BA; replace BC := (hk _ Ncx).trans BC; replace H4t := H4t.tight.move (fun k hk' => hk k (by rw [hg4] at hk'; injection hk' with hk'; omega)); replace H27t := H27t.tight.move (fun k hk' => hk k (by rw [hg27] at hk'; injection hk' with hk'; omega)); replace HB := hb _ _ HB Lx; clear hk hb hz BX')
    | ((with_reducible refine wpList_load_blk rfl 48 (.tmp 3) rfl gx 48 ?l1 (o.cells u4 u27) _ ?l2 Tryd.underlying48 ?l3 ?l4 ?_); (case l1 => rfl); (case l2 => exact BX); (case l3 => rfl); (case l4 => exact infoO1))
    | ((with_reducible refine wpList_store_blk rfl 48 (.tmp 2) (.tmp 13) rfl gc 48 zz (o.cells u4 u27) ?c1 ?c2 ?c3 ?c4 ?c5 ?c6 ?_); (case c1 => rfl); (case c2 => rfl); (case c3 => exact BC); (case c4 => exact infoO1); (case c5 => exact Hzz.out); (case c6 => exact o.cells_one H4t.cells.2 H27t.cells.2); intro w6 BC' hk hb hz; replace H4t := H4t.tight.move (fun k hk' => hk k (by rw [hg4] at hk'; injection hk' with hk'; omega)); replace H27t := H27t.tight.move (fun k hk' => hk k (by rw [hg27] at hk'; injection hk' with hk'; omega)); replace HB := hb _ _ HB Lc; clear hk hb hz))
  refine bodyPost_ret (v := .agg (o.cells u4 u27)) (results_cell_row (p := 2) (ty := 48) rfl _ _ gc 48 (o.cells u4 u27) (0, 0) _ (by rfl) BC' Tryd.underlying48 rfl infoO1) rfl ?_
  refine ⟨u4, u27, rfl, H4t.mono (fun k hk e => ?_), H27t.mono (fun k hk e => ?_), HB⟩
  · rw [hg27] at e
    rw [hg4] at hk
    injection e with e
    injection hk with hk
    omega
  · rw [hg4] at e
    rw [hg27] at hk
    injection e with e
    injection hk with hk
    omega
end Go.Proofs.YtoepbjgldmgaoaaDoor

/- The chapter's pods, and what each statement of chapter 24 asks first. -/
namespace Go.Proofs.YtoepbjgldmgaoaaDoor
open Go.RowKit Go.Proofs.YtoepbjgldmgaoaaDoorW.PrintWords Go.Proofs.YtoepbjgldmgaoaaDoorW.PrintLast
def Ob.c0 (o : Ob) : Array Value := o.cells (.slice none 0 0) (.slice none 0 0)
def oA : Ob := { Ob.zero with kind := 1, name := ⟨#[97]⟩, node := ⟨#[110]⟩, phase := 1, ready := true, born := 3 }
def oB1 : Ob := { oA with name := ⟨#[98]⟩ }
def oB : Ob := { oB1 with born := 5 }
def oC : Ob := { Ob.zero with kind := 1, name := ⟨#[99]⟩, node := ⟨#[110]⟩, born := 1 }
def oD : Ob := { Ob.zero with kind := 1, name := ⟨#[100]⟩, born := 1 }
def oE1 : Ob := { oB with name := ⟨#[101]⟩ }
def oE : Ob := { oE1 with ending := true }
attribute [local irreducible] Ob.c0
end Go.Proofs.YtoepbjgldmgaoaaDoor

/- What each statement of chapter 24 asks first: of the chapter's pods the one on no node ends first. -/
namespace Go.Proofs.YtoepbjgldmgaoaaDoor
open Go.RowKit Go.Proofs.YtoepbjgldmgaoaaDoorW.PrintWords Go.Proofs.YtoepbjgldmgaoaaDoorW.PrintLast
def fiveL : List Ob := [oA, oB, oC, oD, oE]
end Go.Proofs.YtoepbjgldmgaoaaDoor

/- SameObjects: are two lists of objects the same? has, bound (chapter 24). -/
namespace Go.Proofs.YtoepbjgldmgaoaaDoor
open Go.RowKit Go.Proofs.YtoepbjgldmgaoaaDoorW.PrintWords Go.Proofs.YtoepbjgldmgaoaaDoorW.PrintLast
instance obDec : DecidableEq Ob := fun o p => decidable_of_iff (sameB o p = true) (sameB_iff o p)
theorem sameB_dec (o p : Ob) : sameB o p = decide (o = p) := by
  rw [Bool.eq_iff_iff, sameB_iff, decide_eq_true_eq]
structure ObjAt (w : World) (ad : Addr) (k : Nat) (o : Ob) (v4 v27 : Value) : Prop where
  l4 : LabK w o.labels v4
  l27 : LabK w o.select v27
  cells : ∀ (j : Nat) (u : Value), (o.cells v4 v27)[j]? = some u → w.cell? ((ad.add (k * 32)).add j) = some u
theorem ObjAt.below {w w1 : World} {ad : Addr} {k : Nat} {o : Ob} {v4 v27 : Value} (h : ObjAt w ad k o v4 v27) (hb : Below w.heap.size w w1) : ObjAt w1 ad k o v4 v27 :=
  ⟨h.l4.below hb, h.l27.below hb, fun j u hu => cell_below hb (h.cells j u hu)⟩
theorem objAt {w : World} {A : Option Addr} {n : Nat} {l : List Ob} (h : kO.C w A n l) (k : Nat) (o : Ob) (hk : l[k]? = some o) : ∃ ad v4 v27, A = some ad ∧ ObjAt w ad k o v4 v27 := by
  obtain ⟨ad, v4, v27, e, h4, h27, hc⟩ := obj_at h k o hk
  exact ⟨ad, v4, v27, e, h4, h27, fun j u hu => by rw [add_add]; exact hc j u hu⟩
theorem take_same {l m : List Ob} {k : Nat} (h : l.take k = m.take k) {o p : Ob} (ho : l[k]? = some o) (hp : m[k]? = some p) : l.take (k + 1) = m.take (k + 1) ↔ o = p := by
  rw [List.take_add_one, List.take_add_one, h, ho, hp]
  simp
def rg15_6_T : Bool × List (List Nat × List Nat) := (true, [([], []), ([], []), ([0, 1], [0, 1]), ([2], [2]), ([], []), ([], []), ([4, 5], [4, 5]), ([6], [6]), ([3, 7], [3, 7]), ([8], [8])])
def rg15_6_B : List Nat := [0, 0, 3, 7, 0, 0, 48, 112, 255, 511]
theorem rg15_6_tab : rtab .any (opsOf Tryd.f15 6) = rg15_6_T := by kernel_rfl
theorem rg15_6_bits : waitsOk rg15_6_T.2 rg15_6_B = true := by kernel_rfl
def rg24_4_T : Bool × List (List Nat × List Nat) := (true, [([], []), ([], []), ([0, 1], [0, 1]), ([2], [2]), ([], []), ([3, 4], [3, 4])])
def rg24_4_B : List Nat := [0, 0, 3, 7, 0, 31]
set_option maxHeartbeats 1600000 in
set_option maxRecDepth 100000 in
theorem sameObjects_eq (A B : Option Addr) (l m : List Ob) (c d n : Nat) (w : World) (hr : kO.C w A l.length l) (hs : kO.C w B m.length m) (hl : l.length = n) (hm : m.length = n) (hn : n ≤ 1000000) :
    Calls Tryd.prog 15 #[.slice A n c, .slice B n d] w fun e w' => e = .returned (.bool (decide (l = m))) ∧ Below w.heap.size w w' := by
  have HR := Lib.hid hr
  have HS := Lib.hid hs
  have HL := Lib.hid (And.intro hl hm)
  clear hr hs hl hm
  go_enter Tryd.func15, Tryd.ntmps15
  go_wp2
  go_loopw [5] (fun v5 wr => ∃ k : Nat, k ≤ n ∧ v5 = .int .i64 k ∧ Hid (l.take k = m.take k ∧ Below w.heap.size w wr)) (fun v5 _ => n - (intOf v5).toNat)
  case atStart => exact ⟨0, Nat.zero_le _, rfl, Lib.hid ⟨by simp, Below.refl _ _⟩⟩
  case round =>
    obtain ⟨k, hk, rfl, hI⟩ := hrel
    by_cases hlt : k < n
    · obtain ⟨o, ho⟩ : ∃ o, l[k]? = some o := ⟨_, List.getElem?_eq_getElem (by have := HL.out; omega)⟩
      obtain ⟨p, hp⟩ : ∃ p, m[k]? = some p := ⟨_, List.getElem?_eq_getElem (by have := HL.out; omega)⟩
      obtain ⟨ad, v4, v27, rfl, hO⟩ := objAt (Kd.C_below HR.out hI.out.2) k o ho
      obtain ⟨bd, u4, u27, rfl, hP⟩ := objAt (Kd.C_below HS.out hI.out.2) k p hp
      obtain ⟨cs, hcs⟩ : ∃ cs, cs = o.cells v4 v27 := ⟨_, rfl⟩
      obtain ⟨ds, hds⟩ : ∃ ds, ds = p.cells u4 u27 := ⟨_, rfl⟩
      have hi1 : Hid ((Tryd.prog.info? 48).map (·.size) = some cs.size) := Lib.hid (by rw [hcs, Ob.cells_size]; kernel_rfl)
      have hi2 : Hid ((Tryd.prog.info? 48).map (·.size) = some ds.size) := Lib.hid (by rw [hds, Ob.cells_size]; kernel_rfl)
      have B1 := hO.cells
      have B2 := hP.cells
      rw [← hcs] at B1
      rw [← hds] at B2
      obtain ⟨rb, hrb⟩ : ∃ rb, rb = sameB o p := ⟨_, rfl⟩
      have QS := Lib.hid (fun (W : World) (hW : Below wr.heap.size wr W) => sameObject_calls o p v4 v27 u4 u27 W (hO.l4.below hW) (hO.l27.below hW) (hP.l4.below hW) (hP.l27.below hW))
      rw [← hrb, ← hcs, ← hds] at QS
      have HT := Lib.hid (And.intro ho (And.intro hp hrb))
      replace B1 := Lib.hid (fun (W : World) (hW : Below wr.heap.size wr W) j u hu => cell_below hW (B1 j u hu))
      replace B2 := Lib.hid (fun (W : World) (hW : Below wr.heap.size wr W) j u hu => cell_below hW (B2 j u hu))
      clear ho hp hrb hcs hds hO hP
      have HB : Below wr.heap.size wr wr := Below.refl _ _
      replace HB := below_drew HB
      have hlk : (k : Int) < (n : Int) := by omega
      go_upto_region 6 with (fail)
      refine start_ (n := 10) (S := fun w' => Below wr.heap.size wr w') (ds := []) (bs 10 0) (by kernel_rfl) rfl (by kernel_rfl) HB (fun hHeld => ?_)
      refine with_tabW rg15_6_tab rg15_6_bits (fun HT_ HW_ => ?_)
      refine pu 0 (some 17) (bs 10 1) HT_ rfl rfl (by kernel_rfl) (fun _ _ _ _ h => h) ⟨_, .inl ⟨by rfl, fun _ => by go_simp; with_reducible rfl⟩, _, by simp only [Act.put, sA, sB, sC, i64_w, i32_w]; rfl, ?_⟩
      refine pu 1 (some 18) (bs 10 3) HT_ rfl rfl (by kernel_rfl) (fun _ _ _ _ h => h) ⟨_, .inl ⟨by rfl, fun _ => by go_simp; with_reducible rfl⟩, _, by simp only [Act.put, sA, sB, sC, i64_w, i32_w]; rfl, ?_⟩
      refine pu 2 (some 19) (bs 10 7) HT_ rfl rfl (by kernel_rfl) (fun _ _ _ _ h => h) ⟨_, .inl ⟨by rfl, fun _ => by go_simp; with_reducible rfl⟩, _, by simp only [Act.put, sA, sB, sC, i64_w, i32_w]; rfl, ?_⟩
      refine pu 4 (some 21) (bs 10 23) HT_ rfl rfl (by kernel_rfl) (fun _ _ _ _ h => h) ⟨_, .inl ⟨by rfl, fun _ => by go_simp; with_reducible rfl⟩, _, by simp only [Act.put, sA, sB, sC, i64_w, i32_w]; rfl, ?_⟩
      refine pu 5 (some 22) (bs 10 55) HT_ rfl rfl (by kernel_rfl) (fun _ _ _ _ h => h) ⟨_, .inl ⟨by rfl, fun _ => by go_simp; with_reducible rfl⟩, _, by simp only [Act.put, sA, sB, sC, i64_w, i32_w]; rfl, ?_⟩
      refine pu 6 (some 23) (bs 10 119) HT_ rfl rfl (by kernel_rfl) (fun _ _ _ _ h => h) ⟨_, .inl ⟨by rfl, fun _ => by go_simp; with_reducible rfl⟩, _, by simp only [Act.put, sA, sB, sC, i64_w, i32_w]; rfl, ?_⟩
      refine tk 3 (some 20) (bs 10 127) HT_ HW_ rfl rfl (by kernel_rfl) (fun _ _ _ _ h => h) hHeld ⟨_, .inl ⟨by rfl, by rintro w' s0; refine load_any_ (x := .tmp 19) (p := ad.add (k * 32)) ?_ ?_ (B1.out _ s0) Tryd.underlying48 rfl hi1.out <;> rfl⟩, _, by simp only [Act.put, sA, sB, sC, i64_w, i32_w]; rfl, ?_⟩
      refine tk 7 (some 24) (bs 10 255) HT_ HW_ rfl rfl (by kernel_rfl) (fun _ _ _ _ h => h) hHeld ⟨_, .inl ⟨by rfl, by rintro w' s0; refine load_any_ (x := .tmp 23) (p := bd.add (k * 32)) ?_ ?_ (B2.out _ s0) Tryd.underlying48 rfl hi2.out <;> rfl⟩, _, by simp only [Act.put, sA, sB, sC, i64_w, i32_w]; rfl, ?_⟩
      refine on1 8 (some 25) (bs 10 511) HT_ rfl rfl (by kernel_rfl) (by decide) (fun K hK => ?_)
      refine goes_ Tryd.func32 (by kernel_rfl) rfl #[.agg cs, .agg ds] (by rfl) rfl rfl (by (try simp only [List.map_toArray, List.map_cons, List.map_nil]); first | done | rfl) ?_
      with_reducible refine (QS.out _ HB).mono ?_
      rintro e w1 ⟨rfl, hb⟩
      replace HB := belT HB hb
      clear hb
      refine ⟨_, rfl, ?_⟩
      refine hK.out _ _ HB (fun hHeld => ?_)
      clear hK K
      refine nm ⟨_, show Act.put _ (some 25) _ = _ by simp only [Act.put, sA, sB, sC, i64_w, i32_w]; rfl, ?_⟩
      refine pu 9 (some 26) (bs 10 1023) HT_ rfl rfl (by kernel_rfl) (fun _ _ _ _ h => h) ⟨_, .inl ⟨by rfl, fun _ => by go_simp; with_reducible rfl⟩, _, by simp only [Act.put, sA, sB, sC, i64_w, i32_w]; rfl, ?_⟩
      refine done_ (done_of HT_.out (by kernel_rfl)) ?_
      cases rb
      · go_wp2
        go_ret
        refine ⟨?_, belT hI.out.2 HB⟩
        have e : ¬ l = m := fun e => by
          subst e
          obtain ⟨h1, h2, h3⟩ := HT.out
          rw [h1] at h2
          injection h2 with h2
          subst h2
          rw [sameB_dec] at h3
          simp at h3
        rw [decide_eq_false e]
        rfl
      · go_wp2
        go_roundw
        case rel =>
          obtain ⟨h1, h2, h3⟩ := HT.out
          rw [sameB_dec] at h3
          exact ⟨k + 1, by omega, by go_num, Lib.hid ⟨(take_same hI.out.1 h1 h2).2 (of_decide_eq_true h3.symm), belT hI.out.2 HB⟩⟩
        case measure => simp [intOf]; omega
    · obtain rfl : k = n := by omega
      go_wp2
      go_ret
      refine ⟨?_, hI.out.2⟩
      obtain ⟨h1, h2⟩ := HL.out
      have h := hI.out.1
      rw [← h1, List.take_length, h1, ← h2, List.take_length] at h
      rw [decide_eq_true h]
      rfl
theorem sameObjects_calls (A B : Option Addr) (l m : List Ob) (c d : Nat) (w : World) (hr : kO.C w A l.length l) (hs : kO.C w B m.length m) (hn : l.length ≤ 1000000) :
    Calls Tryd.prog 15 #[.slice A l.length c, .slice B m.length d] w fun e w' => e = .returned (.bool (decide (l = m))) ∧ Below w.heap.size w w' := by
  by_cases h : l.length = m.length
  · have := sameObjects_eq A B l m c d l.length w hr hs rfl h.symm hn
    rw [← h]
    exact this
  · have hne : ¬ l = m := fun e => h (by rw [e])
    rw [decide_eq_false hne]
    have e1 : ((l.length : Int) != (m.length : Int)) = true := by simp; omega
    clear hr hs hne
    go_enter Tryd.func15, Tryd.ntmps15
    go_wp2
    go_ret
    exact ⟨rfl, Below.refl _ _⟩
def boundB : Bool → List Ob → Bool
  | _, [] => true
  | r, o :: l => if o.node.toList = [] ∨ ¬ o.phase = 1 then boundB r l else if r = true ∧ o.ready = false then false else boundB (r || o.ready) l
end Go.Proofs.YtoepbjgldmgaoaaDoor

/- LentObjects: each object lent, in a list of its own. -/
namespace Go.Proofs.YtoepbjgldmgaoaaDoor
open Go.RowKit Go.Proofs.YtoepbjgldmgaoaaDoorW.PrintWords Go.Proofs.YtoepbjgldmgaoaaDoorW.PrintLast
theorem lent_step {w wr w1 w2 : World} {v : Value} {xs : List Ob} {o : Ob} {u4 u27 : Value} (hR : Kd.R kLent 48 wr w.heap.size (fun _ => True) v xs) (hB : Below w.heap.size w wr) (hb1 : Below wr.heap.size wr w1)
    (H4 : LentR w1 wr.heap.size (fun k => some k ≠ u27.ownBlock) o.labels u4) (H27 : LentR w1 wr.heap.size (fun k => some k ≠ u4.ownBlock) o.select u27) {x : Obj}
    (hk : ∀ k, k ≠ w1.heap.size → w2.heap[k]? = (w1.alloc x).heap[k]?) (hb2 : Below wr.heap.size wr w2) :
    (kLent.M w2 w.heap.size (fun k => some k = u4.ownBlock ∨ some k = u27.ownBlock) o (o.cells u4 u27).toList ∧ Kd.R kLent 48 w2 w.heap.size (fun _ => True) v xs ∧ ∀ k, (some k = u4.ownBlock ∨ some k = u27.ownBlock) → True ∧ some k ≠ v.ownBlock) ∧ Below w.heap.size w w2 := by
  obtain ⟨g4, e4, b4, l4⟩ := H4.own
  obtain ⟨g27, e27, b27, l27⟩ := H27.own
  have ne : g4 ≠ g27 := fun e => by
    obtain ⟨A, c, rfl, _, hr⟩ := H4
    have := hr.1 g4 e4
    rw [e27] at this
    exact this (by rw [e])
  have same : ∀ k, k < w1.heap.size → w2.heap[k]? = w1.heap[k]? := fun k hlt => (hk k (by omega)).trans (heap_alloc_old _ _ hlt)
  have hw := hB.size
  refine ⟨⟨⟨u4, u27, rfl, ?_, ?_⟩, Kd.R_below hR hb2, ?_⟩, belT hB hb2⟩
  · exact ((H4.tight.move (fun k hk' => same k (by rw [e4] at hk'; injection hk' with hk'; omega))).lower hw).mono (fun k hk' => ⟨.inl hk', fun e => ne (by rw [e4] at hk'; rw [e27] at e; injection hk' with hk'; injection e with e; omega)⟩)
  · exact ((H27.tight.move (fun k hk' => same k (by rw [e27] at hk'; injection hk' with hk'; omega))).lower hw).mono (fun k hk' => ⟨.inr hk', fun e => ne (by rw [e27] at hk'; rw [e4] at e; injection hk' with hk'; injection e with e; omega)⟩)
  · rintro k (h | h) <;> refine ⟨trivial, fun e => ?_⟩ <;> have := Kd.R_lt hR k e.symm
    · rw [e4] at h; injection h with h; omega
    · rw [e27] at h; injection h with h; omega
set_option maxHeartbeats 2000000 in
set_option maxRecDepth 100000 in
theorem lentObjects_calls (A : Option Addr) (c n : Nat) (l : List Ob) (w : World) (hr : kO.C w A l.length l) (hln : l.length = n) (hl : n ≤ 1000000) (hf : ∀ o ∈ l, ObFits o) :
    Calls Tryd.prog 12 #[.slice A n c] w fun e w' => ∃ A', e = .returned (.slice A' n n) ∧ kLent.C w' A' n l ∧ Below w.heap.size w w' := by
  have HR := Lib.hid hr
  have HL := Lib.hid hln
  have HF := Lib.hid hf
  clear hr hln hf
  go_enter Tryd.func12, Tryd.ntmps12
  go_wp2
  go_loopw [3, 4] (fun v3 v4 wr => ∃ k : Nat, v4 = .int .i64 k ∧ k ≤ n ∧ Hid (Kd.R kLent 48 wr w.heap.size (fun _ => True) v3 (l.take k) ∧ Below w.heap.size w wr)) (fun _ v4 _ => n - (intOf v4).toNat)
  case atStart => exact ⟨0, rfl, Nat.zero_le _, Lib.hid ⟨Kd.R_nil _ _ _ _ _, Below.refl _ _⟩⟩
  case round =>
    obtain ⟨k, rfl, hk, hI⟩ := hrel
    by_cases hlt : k < n
    · obtain ⟨o, ho⟩ : ∃ o, l[k]? = some o := ⟨_, List.getElem?_eq_getElem (by have := HL.out; omega)⟩
      obtain ⟨ad, v4, v27, rfl, hO⟩ := objAt (Kd.C_below HR.out hI.out.2) k o ho
      have hlk : (k : Int) < (n : Int) := by omega
      obtain ⟨cs, hcs⟩ : ∃ cs, cs = o.cells v4 v27 := ⟨_, rfl⟩
      have hi1 : Hid ((Tryd.prog.info? 48).map (·.size) = some cs.size) := Lib.hid (by rw [hcs, Ob.cells_size]; kernel_rfl)
      have B1 := hO.cells
      have QL := Lib.hid (lentObject_calls o v4 v27 wr hO.l4 hO.l27 (HF.out o (List.mem_of_getElem? ho)))
      rw [← hcs] at B1 QL
      replace B1 := Lib.hid B1
      have hsn : l.take (k + 1) = l.take k ++ [o] := by rw [List.take_add_one, ho]; rfl
      have HT := Lib.hid hsn
      have hkl : (l.take k).length ≤ 1000000 := by rw [List.length_take]; omega
      have hlen : ((l.take k).length + 1) * 312 ≤ 140737488355328 := by omega
      clear ho hO hcs hsn hkl
      go_wp2_with (first
        | ((with_reducible refine wpList_load_any rfl 48 (.tmp 14) rfl (ad.add (k * 32)) ?l1 cs _ ?l2 Tryd.underlying48 ?l3 ?l4 ?_); (case l1 => rfl); (case l2 => exact B1.out); (case l3 => rfl); (case l4 => exact hi1.out))
        | (go_at_call 41; (with_reducible refine QL.out.mono ?_); rintro e w1 ⟨u4, u27, rfl, H4, H27, hb1⟩; clear QL)
        | ((with_reducible refine wpList_store_blk rfl 48 (.tmp 5) (.tmp 16) rfl w1.heap.size 48 ?c0 (o.cells u4 u27) ?c1 ?c2 ?c3 ?c4 ?c5 ?c6 ?_); (case c1 => rfl); (case c2 => rfl); (case c3 => exact heap_alloc_new _ _); (case c4 => exact infoO1); (case c5 => rfl); (case c6 => exact o.cells_one H4.cells.2 H27.cells.2); intro w2 G hk hb hz; obtain ⟨hA, hB2⟩ := lent_step hI.out.1 hI.out.2 hb1 H4 H27 hk (hb _ _ (Below.alloc (hb1.mono (Nat.le_refl _)) hb1.size _) hb1.size); have HA := Lib.hid hA; have HG := Lib.hid G; have HB2 := Lib.hid hB2; have hw2 : Hid (w.heap.size ≤ w2.heap.size) := Lib.hid hB2.size; obtain ⟨gx, hgx⟩ : ∃ g, g = w1.heap.size := ⟨_, rfl⟩; rw [← hgx] at HG ⊢; clear G hk hb hz hA hB2 hgx H4 H27 hb1)
        | ((with_reducible refine wpList_load_blk rfl 48 (.tmp 5) rfl gx 48 ?m1 (o.cells u4 u27) _ ?m2 Tryd.underlying48 ?m3 ?m4 ?_); (case m1 => rfl); (case m2 => exact HG.out); (case m3 => rfl); (case m4 => exact infoO1))
        | ((with_reducible refine wpList_build1 rfl 22 48 (.tmp 18) rfl (o.cells u4 u27) ?d1 ?d2 32 312 Tryd.underlying22 ?d3 ?d4 (by omega) (by omega) ?d5 ?_); (case d1 => rfl); (case d3 => exact infoO); (case d4 => rfl); (case d5 => rfl))
        | (at_builtin; refine Kd.R_append kLent (w0 := w) (W := w2) w.heap.size rfl (.tmp 17) (.tmp 19) 22 48 (.agg (Ob.zero.cells (.slice none 0 0) (.slice none 0 0))) 312 rfl Tryd.underlying22 infoO rfl (by decide) (by omega) u3 (l.take k) o (o.cells u4 u27).toList (fun _ => True) (fun k => some k = u4.ownBlock ∨ some k = u27.ownBlock) rfl rfl HA.out.1 HA.out.2.2 (fun _ _ => trivial) HA.out.2.1 HB2.out hw2.out hlen ?_; intro v1 w6 hR6 hB6 hg6 hat6))
      go_roundw
      case rel => exact ⟨k + 1, by go_num, by omega, Lib.hid ⟨by rw [HT.out]; exact hR6, hB6⟩⟩
      case measure => simp [intOf]; omega
    · obtain rfl : n = k := by omega
      obtain ⟨A5, c5, rfl⟩ := Kd.R_slice hI.out.1
      have h1 := (Kd.R_reads' hI.out.1)
      have hll : (l.take n).length = n := by rw [List.length_take]; have := HL.out; omega
      have hle : n ≤ c5 := by have := h1.2.1; omega
      have hle2 : (n : Int) ≤ (c5 : Int) := by omega
      have HI := Lib.hid (And.intro h1.2.2 hll)
      rw [hll]
      clear h1 hll
      go_wp2
      go_ret
      refine ⟨A5, rfl, ?_, hI.out.2⟩
      obtain ⟨h2, h3⟩ := HI.out
      rw [h3] at h2
      have e : l.take n = l := List.take_of_length_le (Nat.le_of_eq HL.out)
      rw [e] at h2
      exact h2
end Go.Proofs.YtoepbjgldmgaoaaDoor

/- Labels and objects that were lent: are they as they were? -/
namespace Go.Proofs.YtoepbjgldmgaoaaDoor
open Go.RowKit Go.Proofs.YtoepbjgldmgaoaaDoorW.PrintWords Go.Proofs.YtoepbjgldmgaoaaDoorW.PrintLast
section
attribute [local go_sem high] eqLab
theorem labAt {w : World} {b : Addr} {n k : Nat} {xs : List Lab} {p : Lab} (h : kL.C w (some b) n xs) (hp : xs[k]? = some p) :
    w.cell? (b.add (k * 2)) = some (.string p.f0) ∧ w.cell? ⟨(b.add (k * 2)).block, (b.add (k * 2)).off + 1, none⟩ = some (.string p.f1) := by
  have hk : k < xs.length := (List.getElem?_eq_some_iff.1 hp).1
  have hn := h.1
  obtain ⟨ad, e, h0, h1⟩ := QLb.at_T98 h (k : Int) (by omega) (by omega)
  obtain rfl := Option.some.inj e
  have hr : QLb.rd_T98 xs (k : Int) = p := by simp [QLb.rd_T98, List.getD_eq_getElem?_getD, hp]
  rw [hr] at h0 h1
  simpa using ⟨h0, h1⟩
theorem markLabels_calls (j : Int) (w : World) : ∃ s0 s1, markL j = ⟨s0, s1⟩ ∧ Calls Tryd.prog 93 #[.int .i64 90, .int .i64 j] w fun e w' => e = .returned (.agg #[.string s0, .string s1]) ∧ Below w.heap.size w w' :=
  ⟨_, _, rfl, QLb.flotillakit_markLabels.calls 90 j _ _ w (mark_f j)⟩
set_option maxHeartbeats 1600000 in
theorem keptFullLabels (l : List Lab) (b0 : Addr) (A1 : Option Addr) (c0 c1 n0 : Nat) (w : World) (h0 : kL.C w (some b0) (l.length + 16) (l ++ marksL)) (h1 : kL.C w A1 l.length l) (hn0 : n0 = l.length + 16) (hbd : l.length ≤ 4398046510976) :
    Calls Tryd.prog 111 #[.slice (some b0) n0 c0, .slice A1 l.length c1] w fun e w' => e = .returned (.bool true) ∧ Below w.heap.size w w' := by
  rw [← hn0] at h0
  have H0 := Lib.hid h0
  have H1 := Lib.hid h1
  have e1 : ((n0 : Int) != (l.length : Int) + 16) = false := by simp; omega
  have hk16 : n0 ≤ l.length + 16 := by omega
  have hk17 : l.length + 16 ≤ n0 := by omega
  clear h0 h1 hn0
  go_enter Tryd.func111, Tryd.ntmps111
  go_wp2
  go_loopw [5] (fun v5 wr => ∃ k : Nat, k ≤ n0 ∧ v5 = .int .i64 k ∧ Below w.heap.size w wr) (fun v5 _ => n0 - (intOf v5).toNat)
  case atStart => exact ⟨0, Nat.zero_le _, rfl, Below.refl _ _⟩
  case round =>
    obtain ⟨k, hk, rfl, hB⟩ := hrel
    have hC0 : Hid (kL.C wr (some b0) n0 (l ++ marksL)) := Lib.hid (Kd.C_below H0.out hB)
    have hC1 : Hid (kL.C wr A1 l.length l) := Lib.hid (Kd.C_below H1.out hB)
    by_cases hlt : k < n0
    · obtain ⟨s0, s1, hm, QM⟩ := markLabels_calls ((k : Int) - (l.length : Int)) wr
      by_cases hl1 : k < l.length
      · obtain ⟨p, hp⟩ : ∃ p, l[k]? = some p := ⟨l[k], List.getElem?_eq_getElem hl1⟩
        have hp0 : Hid ((l ++ marksL)[k]? = some p) := Lib.hid (by rw [List.getElem?_append_left hl1]; exact hp)
        have hp1 : Hid (l[k]? = some p) := Lib.hid hp
        have HQ := Lib.hid QM
        clear hp hm QM
        obtain ⟨b1, rfl⟩ : ∃ b1, A1 = some b1 := by obtain ⟨ad, e, _⟩ := hC1.out.2.2 (by omega); exact ⟨ad, e⟩
        go_wp2_with (go_at_call 93; refine HQ.out.mono ?_; rintro e w1 ⟨rfl, hb1⟩; have q0 := fun X => (labAt (Kd.C_below hC0.out (below_alloc hb1 X)) hp0.out).1; have q1 := fun X => (labAt (Kd.C_below hC0.out (below_alloc hb1 X)) hp0.out).2; have r0 := fun X => (labAt (Kd.C_below hC1.out (below_alloc hb1 X)) hp1.out).1; have r1 := fun X => (labAt (Kd.C_below hC1.out (below_alloc hb1 X)) hp1.out).2)
        go_quiet (fail)
        go_wp2
        go_roundw
        case rel => exact ⟨k + 1, by omega, by go_num, hB.trans ((pw_below_drewN (below_alloc hb1 _) _).mono hB.size)⟩
        case measure => simp [intOf]; omega
      · have hp0 : Hid ((l ++ marksL)[k]? = some ⟨s0, s1⟩) := Lib.hid (by
          rw [List.getElem?_append_right (by omega), marksN_at 16 _ (by omega), ← hm]
          have e : ((k - l.length : Nat) : Int) = (k : Int) - (l.length : Int) := by omega
          rw [e])
        have HQ := Lib.hid QM
        clear hm QM
        go_wp2_with (go_at_call 93; refine HQ.out.mono ?_; rintro e w1 ⟨rfl, hb1⟩; have q0 := fun X => (labAt (Kd.C_below hC0.out (below_alloc hb1 X)) hp0.out).1; have q1 := fun X => (labAt (Kd.C_below hC0.out (below_alloc hb1 X)) hp0.out).2)
        go_quiet (fail)
        go_wp2
        go_roundw
        case rel => exact ⟨k + 1, by omega, by go_num, hB.trans ((pw_below_drewN (below_alloc hb1 _) _).mono hB.size)⟩
        case measure => simp [intOf]; omega
    · go_wp2
      go_ret
      exact ⟨rfl, hB⟩
theorem keptLabels_calls {w : World} {l : List Lab} {v u : Value} (h : LentK w l v) (g : LabK w l u) (hbd : l.length ≤ 4398046510976) :
    Calls Tryd.prog 98 #[v, u] w fun e w' => e = .returned (.bool true) ∧ Below w.heap.size w w' := by
  obtain ⟨b0, c0, rfl, hc0, h0⟩ := h
  obtain ⟨A1, c1, rfl, hc1', h1⟩ := g
  have hc1 : (l.length : Int) + 16 ≤ (c0 : Int) := by omega
  have hn : ((l.length : Int) + 16).toNat = l.length + 16 := by omega
  have HC := Lib.hid (keptFullLabels l b0 A1 c0 c1 (l.length + 16) w h0 h1 rfl hbd)
  clear h0 h1 hc0
  go_enter Tryd.func98, Tryd.ntmps98
  go_wp2_with (go_at_call 111; refine HC.out.mono ?_; rintro e w1 ⟨rfl, hb1⟩)
  go_ret
  exact ⟨rfl, hb1⟩
end
end Go.Proofs.YtoepbjgldmgaoaaDoor

/- ApartLabels: lists of labels, each in memory of its own, are written over, and hold what was written. (Under way.) -/
namespace Go.Proofs.YtoepbjgldmgaoaaDoor
open Go.RowKit Go.Proofs.YtoepbjgldmgaoaaDoorW.PrintWords Go.Proofs.YtoepbjgldmgaoaaDoorW.PrintLast
def markK (k i : Nat) : Lab := ⟨strOfNums ([35, (k : Int) % 256, (k : Int) / 256 % 256, (i : Int) % 256, (i : Int) / 256 % 256] : List Int), (⟨#[]⟩ : ByteArray)⟩
def marksK (k n : Nat) : List Lab := (List.range n).map (markK k)
theorem marksK_length (k n : Nat) : (marksK k n).length = n := by simp [marksK]
theorem marksK_succ (k n : Nat) : marksK k (n + 1) = marksK k n ++ [markK k n] := by simp [marksK, List.range_succ]
theorem marksK_at (k n i : Nat) (h : i < n) : (marksK k n)[i]? = some (markK k i) := by simp [marksK, h]
theorem markK_calls (k i : Nat) (w : World) : Calls Tryd.prog 93 #[.int .i64 k, .int .i64 i] w fun e w' => e = .returned (.agg #[.string (markK k i).f0, .string (markK k i).f1]) ∧ Below w.heap.size w w' :=
  QLb.flotillakit_markLabels.calls k i _ _ w rfl
structure OnlyB (G : Nat → Prop) (w w' : World) : Prop where
  os : w'.os = w.os
  tape : w'.tape = w.tape
  output : w'.output = w.output
  size : w.heap.size ≤ w'.heap.size
  block : ∀ k, k < w.heap.size → ¬ G k → w'.heap[k]? = w.heap[k]?
theorem OnlyB.refl (G : Nat → Prop) (w : World) : OnlyB G w w := ⟨rfl, rfl, rfl, Nat.le_refl _, fun _ _ _ => rfl⟩
theorem OnlyB.of_below {G : Nat → Prop} {w w' : World} (h : Below w.heap.size w w') : OnlyB G w w' := ⟨h.os, h.tape, h.output, h.size, fun k hk _ => h.block k hk⟩
theorem OnlyB.trans {G : Nat → Prop} {a b c : World} (h : OnlyB G a b) (k : OnlyB G b c) : OnlyB G a c :=
  ⟨k.os.trans h.os, k.tape.trans h.tape, k.output.trans h.output, Nat.le_trans h.size k.size, fun i hi hg => (k.block i (Nat.lt_of_lt_of_le hi h.size) hg).trans (h.block i hi hg)⟩
theorem OnlyB.of_grown {G : Nat → Prop} {w w' : World} {row : Option Nat} (h : w.grownBy w' row) (hr : ∀ k, row = some k → G k) : OnlyB G w w' :=
  ⟨h.os, h.tape, h.output, h.size, fun k hk hg => h.block k hk (fun e => hg (hr k e.symm))⟩
theorem OnlyB.below {G : Nat → Prop} {B : Nat} {a b c : World} (h : Below B a b) (k : OnlyB G b c) (hB : ∀ k, G k → B ≤ k) (hs : B ≤ b.heap.size) : Below B a c :=
  ⟨k.os.trans h.os, k.tape.trans h.tape, k.output.trans h.output, Nat.le_trans h.size k.size, fun i hi => (k.block i (by omega) (fun hg => by have := hB i hg; omega)).trans (h.block i hi)⟩
structure Bk (w : World) (base : Nat) (V : List Value) (L : Nat → List Lab) : Prop where
  row : ∀ k v, V[k]? = some v → kL.R 98 w base (fun b => some b = v.ownBlock) v (L k)
def ApartV (V : List Value) : Prop := ∀ (j k : Nat) (v u : Value), j ≠ k → V[j]? = some v → V[k]? = some u → ∀ b, v.ownBlock = some b → u.ownBlock ≠ some b
def inV (V : List Value) (b : Nat) : Prop := ∃ v ∈ V, v.ownBlock = some b
theorem Bk.below {w w1 : World} {base : Nat} {V : List Value} {L : Nat → List Lab} (h : Bk w base V L) (hb : Below w.heap.size w w1) : Bk w1 base V L := ⟨fun k v hv => Kd.R_below (h.row k v hv) hb⟩
theorem Bk.congr {w : World} {base : Nat} {V : List Value} {L M : Nat → List Lab} (h : Bk w base V L) (e : ∀ k, k < V.length → L k = M k) : Bk w base V M := ⟨fun k v hv => by rw [← e k (List.getElem?_eq_some_iff.1 hv).1]; exact h.row k v hv⟩
theorem Bk.turn {w w1 : World} {base : Nat} {V : List Value} {L : Nat → List Lab} (h : Bk w base V L) (ha : ApartV V) {k : Nat} {v : Value} (hk : V[k]? = some v) (hg : w.grownBy w1 v.ownBlock) {l : List Lab} (hR : kL.R 98 w1 base (fun b => some b = v.ownBlock) v l) : Bk w1 base V (fun j => if j = k then l else L j) := by
  refine ⟨fun j u hu => ?_⟩
  by_cases hj : j = k
  · subst hj
    rw [hk] at hu
    obtain rfl := Option.some.inj hu
    rw [if_pos rfl]
    exact hR
  · rw [if_neg hj]
    have hr := h.row j u hu
    refine Kd.R_move hr (fun b hb => hg.block b (Kd.R_lt hr b hb.symm) (fun e => ?_))
    exact ha k j v u (fun e => hj e.symm) hk hu b e.symm hb.symm
section
variable {P : Program}
theorem storeLab_ {ops : Array Oper} {oi : Oper} {a : Act} {W : World} {K : Act → World → Prop} {Q : Exit → Act → World → Prop} {base g n cap i : Nat} {ok : Nat → Prop} {xs : List Lab} {p x : Operand} {s0 s1 : ByteArray} (hinfo : (P.info? 98).map (·.size) = some 2) (hw : Region.wanted oi (yielded ops a.tmps) = true) (hN : oi.dst = none) (ho : oi.op = .store 98 p x)
    (haddr : a.eval p = .pointer (some ⟨g, i * 2, none⟩)) (hx : a.eval x = .agg #[.string s0, .string s1]) (HO : kL.R 98 W base ok (.slice (some ⟨g, 0, none⟩) n cap) xs) (hi : i < n)
    (h : ∀ w1, kL.R 98 w1 base ok (.slice (some ⟨g, 0, none⟩) n cap) (xs.set i ⟨s0, s1⟩) → W.grownBy w1 (some g) → K a w1) :
    if Region.wanted oi (yielded ops a.tmps) = true then Oper.wp P oi a W K Q else K (a.put none undef) W := by
  obtain ⟨hn, _, hC⟩ := Kd.R_reads' HO
  have hil : i < xs.length := by omega
  obtain ⟨p0, hp0⟩ : ∃ p0, xs[i]? = some p0 := ⟨_, List.getElem?_eq_getElem hil⟩
  obtain ⟨c0, c1⟩ := labAt hC hp0
  rw [add_at, Nat.zero_add] at c0 c1
  have hs := Kd.R_seg HO (i : Int) (by omega) (by omega) (c := [.string p0.f0, .string p0.f1]) (seg := [.string s0, .string s1]) (j := 0) rfl (fun j u hu => by
    match j, hu with
    | 0, hu => obtain rfl : Value.string p0.f0 = u := by simpa using hu
               exact c0
    | 1, hu => obtain rfl : Value.string p0.f1 = u := by simpa using hu
               exact c1
    | j + 2, hu => simp at hu) (Nat.le_refl 2) (x' := ⟨s0, s1⟩) (okp := fun _ => False) (QLb.k98_mkM _ _ _ _) (fun _ hk => hk.elim)
  simp only [Nat.add_zero, Int.toNat_natCast] at hs
  have hsz : kL.sz = 2 := rfl
  rw [hsz] at hs
  refine skip_ hw hN (w1 := W.setCells g (i * 2) [.string s0, .string s1]) ?_ (h _ hs.1 hs.2)
  obtain ⟨hok, inner, hown, hr⟩ := HO
  rcases hown.2 with ⟨hv, _⟩ | ⟨g', cap', cur, hv, hb, hh, hnc', hcm, hcs, ht⟩
  · cases hv
  · injection hv with hv1 hv2 hv3
    injection hv1 with hv1
    injection hv1 with hv1
    subst hv1
    have hst := run_store_run (P := P) (w := W) (g := g) (o := i * 2) 98 (.agg #[.string s0, .string s1]) [.string s0, .string s1] hh rfl hinfo (by
      rw [hcs]
      show i * 2 + 2 ≤ _
      rw [hsz]
      omega) (fun q hq => by
      simp only [List.mem_cons, List.not_mem_nil, or_false] at hq
      rcases hq with rfl | rfl <;> rfl)
    unfold execOp
    simp [ho, haddr, hx, hst]
end
end Go.Proofs.YtoepbjgldmgaoaaDoor

/- CopyLabels, CopyObject, CopyObjects: the same, in memory of their own. -/
namespace Go.Proofs.YtoepbjgldmgaoaaDoor
open Go.RowKit Go.Proofs.YtoepbjgldmgaoaaDoorW.PrintWords Go.Proofs.YtoepbjgldmgaoaaDoorW.PrintLast
theorem copy0 (l : List Lab) (hl : l.length ≤ 4398046510976) : ∀ (d i k : Nat), l.length - i ≤ d → d < k → i ≤ l.length → QLb.flotillaref0_CopyLabels.l0 k l (l.take i) (i : Int) = some l := by
  intro d
  induction d with
  | zero =>
    intro i k h1 h2 h3
    obtain ⟨k, rfl⟩ : ∃ m, k = m + 1 := ⟨k - 1, by omega⟩
    simp only [QLb.flotillaref0_CopyLabels.l0]
    rw [if_neg (by omega), List.take_of_length_le (by omega)]
  | succ d ih =>
    intro i k h1 h2 h3
    obtain ⟨k, rfl⟩ : ∃ m, k = m + 1 := ⟨k - 1, by omega⟩
    by_cases hi : i < l.length
    · simp only [QLb.flotillaref0_CopyLabels.l0]
      rw [if_pos (by omega), if_pos (by omega), if_pos (by rw [List.length_take]; omega), show wrap64 ((i : Int) + 1) = ((i + 1 : Nat) : Int) by unfold wrap64; omega]
      have e1 : QLb.rd_T98 l (i : Int) = l[i] := by simp [QLb.rd_T98, List.getD_eq_getElem?_getD, hi]
      have e2 : l.take i ++ [(⟨(QLb.rd_T98 l (i : Int)).f0, (QLb.rd_T98 l (i : Int)).f1⟩ : Lab)] = l.take (i + 1) := by
        rw [e1, List.take_succ_eq_append_getElem hi]
      rw [e2]
      exact ih (i + 1) k (by omega) (by omega) (by omega)
    · simp only [QLb.flotillaref0_CopyLabels.l0]
      rw [if_neg (by omega), List.take_of_length_le (by omega)]
theorem copyLabels_calls {w : World} {l : List Lab} {v : Value} (h : LabK w l v) (hl : l.length ≤ 4398046510976) :
    Calls Tryd.prog 86 #[v] w fun e w' => ∃ v', e = .returned v' ∧ kL.R 98 w' w.heap.size (fun _ => True) v' l ∧ Below w.heap.size w w' := by
  obtain ⟨A, c, rfl, hc, hr⟩ := h
  have hf : QLb.flotillaref0_CopyLabels.f (l.length + 1) l = some l := by
    have := copy0 l hl l.length 0 (l.length + 1) (by omega) (by omega) (by omega)
    simpa [QLb.flotillaref0_CopyLabels.f] using this
  exact QLb.flotillaref0_CopyLabels.calls _ A c l l w hr hc hf
set_option maxRecDepth 100000 in
set_option maxHeartbeats 2000000 in
theorem copyObject_calls (o : Ob) (v4 v27 : Value) (w : World) (h4 : LabK w o.labels v4) (h27 : LabK w o.select v27) (hf : ObFits o) :
    Calls Tryd.prog 50 #[.agg (o.cells v4 v27)] w fun e w' => ∃ u4 u27, e = .returned (.agg (o.cells u4 u27)) ∧ kO.M w' w.heap.size (fun _ => True) o (o.cells u4 u27).toList ∧ Below w.heap.size w w' := by
  obtain ⟨cs, hcs⟩ : ∃ cs, cs = o.cells v4 v27 := ⟨_, rfl⟩
  have Q4 := Lib.hid (fun (W : World) (hW : Below w.heap.size w W) => copyLabels_calls (h4.below hW) hf.2.1)
  have Q27 := Lib.hid (fun (W : World) (hW : Below w.heap.size w W) => copyLabels_calls (h27.below hW) hf.2.2)
  have h1c := o.cells_one (v4 := v4) (v27 := v27) h4.one h27.one
  rw [← hcs] at h1c ⊢
  have hs : cs.size = 32 := by rw [hcs]; rfl
  have hi1 : Hid ((Tryd.prog.info? 48).map (·.size) = some cs.size) := Lib.hid (by rw [hs]; kernel_rfl)
  have Hcs := Lib.hid (And.intro hcs (And.intro h1c hs))
  have c4 : Hid (cs[4]? = some v4) := Lib.hid (by rw [hcs]; rfl)
  have c27 : Hid (cs[27]? = some v27) := Lib.hid (by rw [hcs]; rfl)
  clear hcs h1c hs h4 h27 hf
  have HM := Lib.hid (Eq.refl 0)
  go_enter Tryd.func50, Tryd.ntmps50
  obtain ⟨zz, hzz⟩ : ∃ zz, zz = Ob.zero.cells (.slice none 0 0) (.slice none 0 0) := ⟨_, rfl⟩
  have Hzz : Hid (zz.size = 32) := Lib.hid (by rw [hzz]; rfl)
  replace hzz := Lib.hid hzz
  go_wp2_with (first
    | ((with_reducible refine gate_ (.load 48 (.tmp 1)) rfl ?_); clear HM; (have HB : Below w.heap.size w ((w.alloc (Obj.cells cs 48)).alloc (Obj.cells zz 48)) := Go.Joins.below_alloc2 w _ _); (have BA : ((w.alloc (Obj.cells cs 48)).alloc (Obj.cells zz 48)).heap[w.heap.size]? = some (.cells cs 48 (0, 0)) := (heap_alloc_old _ _ (by simp)).trans (heap_alloc_new w _)); (have BC : ((w.alloc (Obj.cells cs 48)).alloc (Obj.cells zz 48)).heap[w.heap.size + 1]? = some (.cells zz 48 (0, 0)) := heap_alloc2_new w _ _); (have hW0 : ((w.alloc (Obj.cells cs 48)).alloc (Obj.cells zz 48)) = ((w.alloc (Obj.cells cs 48)).alloc (Obj.cells (Ob.zero.cells (.slice none 0 0) (.slice none 0 0)) 48)) := by rw [hzz.out]); generalize hW1 : ((w.alloc (Obj.cells cs 48)).alloc (Obj.cells zz 48)) = W0 at HB BA BC hW0; (refine Eq.mp (congrArg (fun x => wpList _ _ _ _ _ x) hW0) ?_); clear hW0 hW1; obtain ⟨ga, hga⟩ : ∃ x, x = w.heap.size := ⟨_, rfl⟩; obtain ⟨gc, hgc⟩ : ∃ x, x = w.heap.size + 1 := ⟨_, rfl⟩; rw [← hgc] at BC ⊢; rw [← hga] at BA ⊢; (have La : w.heap.size ≤ ga := by omega); (have Lc : w.heap.size ≤ gc := by omega); (have Nac : ga ≠ gc := by omega); clear hga hgc)
    | ((with_reducible refine wpList_load_blk rfl 48 (.tmp 1) rfl ga 48 ?l1 cs _ ?l2 Tryd.underlying48 ?l3 ?l4 ?_); (case l1 => rfl); (case l2 => exact BA); (case l3 => rfl); (case l4 => exact hi1.out))
    | ((with_reducible refine wpList_store_blk rfl 48 (.tmp 3) (.tmp 4) rfl W0.heap.size 48 ?c0 cs ?c1 ?c2 ?c3 ?c4 ?c5 ?c6 ?_); (case c1 => rfl); (case c2 => rfl); (case c3 => exact heap_alloc_new _ _); (case c4 => exact hi1.out); (case c5 => exact Eq.trans (b := 32) rfl Hcs.out.2.2.symm); (case c6 => exact Hcs.out.2.1); intro w1 BX hk hb hz; have Nax : ga ≠ W0.heap.size := (by have := blkLt BA; omega); have Ncx : gc ≠ W0.heap.size := (by have := blkLt BC; omega); replace BA := (hk _ Nax).trans ((heap_alloc_old _ _ (blkLt BA)).trans BA); replace BC := (hk _ Ncx).trans ((heap_alloc_old _ _ (blkLt BC)).trans BC); have Lx := HB.size; replace HB := hb _ _ (HB.alloc HB.size _) HB.size; clear hk hb hz; obtain ⟨gx, hgx⟩ : ∃ g, g = W0.heap.size := ⟨_, rfl⟩; rw [← hgx] at BX Nax Ncx Lx ⊢; clear hgx)
    | ((with_reducible refine gate_ (.load 43 _) rfl ?_); first | refine wpList_load1_w 43 _ rfl ⟨ga, 4, none⟩ rfl rfl v4 _ ((cell_of_row _ _ 4 _ _ _ BA).trans c4.out) Tryd.underlying43 rfl ?_ | refine wpList_load1_w 43 _ rfl ⟨ga, 27, none⟩ rfl rfl v27 _ ((cell_of_row _ _ 27 _ _ _ BA).trans c27.out) Tryd.underlying43 rfl ?_)
    | (go_at_call 86; (with_reducible refine (Q4.out _ HB).mono ?_); rintro e w2 ⟨u4, rfl, H4, hb⟩; have X4 : ∀ k, u4.ownBlock = some k → gx < k ∧ gc < k := (fun k hk => by have := Kd.R_base H4 k hk; have := blkLt BX; have := blkLt BC; omega); have Y4 : ∀ k, u4.ownBlock = some k → k < w2.heap.size := Kd.R_lt H4; have H4t := Kd.R_tight rfl (Kd.R_lower H4 HB.size); have V4 := Kd.R_val H4; have U4 := lab_cells H4; clear H4; replace BA := blkB hb BA; replace BC := blkB hb BC; replace BX := blkB hb BX; replace HB := belT HB hb; clear hb Q4)
    | (go_at_call 86; (with_reducible refine (Q27.out _ HB).mono ?_); rintro e w3 ⟨u27, rfl, H27, hb⟩; have X27 : ∀ k, u27.ownBlock = some k → gx < k ∧ gc < k := (fun k hk => by have := Kd.R_base H27 k hk; have := blkLt BX; have := blkLt BC; omega); have N4 : ∀ k, u4.ownBlock = some k → u27.ownBlock ≠ some k := (fun k hk hk' => by have := Kd.R_base H27 k hk'; have := Y4 k hk; omega); have H27t := Kd.R_tight rfl (Kd.R_lower H27 HB.size); have V27 := Kd.R_val H27; have U27 := lab_cells H27; clear H27; replace H4t := Kd.R_move H4t (fun k hk => hb.block k (Y4 k hk.symm)); replace BA := blkB hb BA; replace BC := blkB hb BC; replace BX := blkB hb BX; replace HB := belT HB hb; clear hb Q27)
    | ((with_reducible refine wpList_store1 rfl 43 (.tmp 8) (.tmp 7) rfl gx 4 48 cs u4 ?s1 ?s2 ?s3 ?s4 ?s5 ?s6 ?s7 ?_); (case s1 => rfl); (case s2 => rfl); (case s3 => exact U4); (case s4 => exact BX); (case s5 => (rw [Hcs.out.2.2]; omega)); (case s6 => kernel_rfl); (case s7 => exact V4.2); intro w4 BX' hk hb hz; rw [Hcs.out.1, cells_set4] at BX'; replace BX := BX'; replace BA := (hk _ Nax).trans BA; replace BC := (hk _ Ncx).trans BC; replace H4t := Kd.R_move H4t (fun k hk' => hk k (by have := X4 k hk'.symm; omega)); replace HB := hb _ _ HB Lx; replace Y4 : ∀ k, u4.ownBlock = some k → k < w4.heap.size := (fun k hk' => by have := Y4 k hk'; omega); clear hk hb hz BX')
    | ((with_reducible refine wpList_store1 rfl 43 (.tmp 12) (.tmp 11) rfl gx 27 48 (o.cells u4 v27) u27 ?s1 ?s2 ?s3 ?s4 ?s5 ?s6 ?s7 ?_); (case s1 => rfl); (case s2 => rfl); (case s3 => exact U27); (case s4 => exact BX); (case s5 => (rw [Ob.cells_size]; omega)); (case s6 => kernel_rfl); (case s7 => exact V27.2); intro w5 BX' hk hb hz; rw [cells_set27] at BX'; replace BX := BX'; replace BA := (hk _ Nax).trans BA; replace BC := (hk _ Ncx).trans BC; replace H4t := Kd.R_move H4t (fun k hk' => hk k (by have := X4 k hk'.symm; omega)); replace H27t := Kd.R_move H27t (fun k hk' => hk k (by have := X27 k hk'.symm; omega)); replace HB := hb _ _ HB Lx; clear hk hb hz BX')
    | ((with_reducible refine wpList_load_blk rfl 48 (.tmp 3) rfl gx 48 ?l1 (o.cells u4 u27) _ ?l2 Tryd.underlying48 ?l3 ?l4 ?_); (case l1 => rfl); (case l2 => exact BX); (case l3 => rfl); (case l4 => exact infoO1))
    | ((with_reducible refine wpList_store_blk rfl 48 (.tmp 2) (.tmp 13) rfl gc 48 zz (o.cells u4 u27) ?c1 ?c2 ?c3 ?c4 ?c5 ?c6 ?_); (case c1 => rfl); (case c2 => rfl); (case c3 => exact BC); (case c4 => exact infoO1); (case c5 => exact Hzz.out); (case c6 => exact o.cells_one V4.2 V27.2); intro w6 BC' hk hb hz; replace H4t := Kd.R_move H4t (fun k hk' => hk k (by have := X4 k hk'.symm; omega)); replace H27t := Kd.R_move H27t (fun k hk' => hk k (by have := X27 k hk'.symm; omega)); replace HB := hb _ _ HB Lc; clear hk hb hz))
  refine bodyPost_ret (v := .agg (o.cells u4 u27)) (results_cell_row (p := 2) (ty := 48) rfl _ _ gc 48 (o.cells u4 u27) (0, 0) _ (by rfl) BC' Tryd.underlying48 rfl infoO1) rfl ?_
  exact ⟨u4, u27, rfl, ⟨u4, u27, rfl, Kd.R_mono H4t (fun k hk => ⟨trivial, fun e => N4 k hk.symm e.symm⟩), Kd.R_mono H27t (fun k hk => ⟨trivial, fun e => N4 k e.symm hk.symm⟩)⟩, HB⟩
theorem copy_step {w wr w1 w2 : World} {v : Value} {xs : List Ob} {o : Ob} {cs : List Value} (hR : Kd.R kO 48 wr w.heap.size (fun _ => True) v xs) (hB : Below w.heap.size w wr) (hb1 : Below wr.heap.size wr w1)
    (HM : kO.M w1 wr.heap.size (fun _ => True) o cs) {x : Obj}
    (hk : ∀ k, k ≠ w1.heap.size → w2.heap[k]? = (w1.alloc x).heap[k]?) (hb2 : Below wr.heap.size wr w2) :
    (kO.M w2 w.heap.size (fun k => wr.heap.size ≤ k) o cs ∧ Kd.R kO 48 w2 w.heap.size (fun _ => True) v xs ∧ ∀ k, wr.heap.size ≤ k → True ∧ some k ≠ v.ownBlock) ∧ Below w.heap.size w w2 := by
  have same : ∀ k, k < w1.heap.size → w2.heap[k]? = w1.heap[k]? := fun k hlt => (hk k (by omega)).trans (heap_alloc_old _ _ hlt)
  refine ⟨⟨?_, Kd.R_below hR hb2, fun k hle => ⟨trivial, fun e => by have := Kd.R_lt hR k e.symm; omega⟩⟩, belT hB hb2⟩
  exact kO.M_mono (fun k hk => hk.2.1) (kO.M_lower hB.size (kO.M_move (fun k hk => same k hk.2.2.1) (kO.M_bound HM)))
set_option maxHeartbeats 2000000 in
set_option maxRecDepth 100000 in
theorem copyObjects_calls (A : Option Addr) (c n : Nat) (l : List Ob) (w : World) (hr : kO.C w A l.length l) (hln : l.length = n) (hl : n ≤ 1000000) (hf : ∀ o ∈ l, ObFits o) :
    Calls Tryd.prog 49 #[.slice A n c] w fun e w' => ∃ v, e = .returned v ∧ kO.R 48 w' w.heap.size (fun _ => True) v l ∧ Below w.heap.size w w' := by
  have HR := Lib.hid hr
  have HL := Lib.hid hln
  have HF := Lib.hid hf
  clear hr hln hf
  go_enter Tryd.func49, Tryd.ntmps49
  go_wp2
  go_loopw [3, 4] (fun v3 v4 wr => ∃ k : Nat, v4 = .int .i64 k ∧ k ≤ n ∧ Hid (Kd.R kO 48 wr w.heap.size (fun _ => True) v3 (l.take k) ∧ Below w.heap.size w wr)) (fun _ v4 _ => n - (intOf v4).toNat)
  case atStart => exact ⟨0, rfl, Nat.zero_le _, Lib.hid ⟨Kd.R_nil _ _ _ _ _, Below.refl _ _⟩⟩
  case round =>
    obtain ⟨k, rfl, hk, hI⟩ := hrel
    by_cases hlt : k < n
    · obtain ⟨o, ho⟩ : ∃ o, l[k]? = some o := ⟨_, List.getElem?_eq_getElem (by have := HL.out; omega)⟩
      obtain ⟨ad, v4, v27, rfl, hO⟩ := objAt (Kd.C_below HR.out hI.out.2) k o ho
      have hlk : (k : Int) < (n : Int) := by omega
      obtain ⟨cs, hcs⟩ : ∃ cs, cs = o.cells v4 v27 := ⟨_, rfl⟩
      have hi1 : Hid ((Tryd.prog.info? 48).map (·.size) = some cs.size) := Lib.hid (by rw [hcs, Ob.cells_size]; kernel_rfl)
      have B1 := hO.cells
      have QL := Lib.hid (copyObject_calls o v4 v27 wr hO.l4 hO.l27 (HF.out o (List.mem_of_getElem? ho)))
      rw [← hcs] at B1 QL
      replace B1 := Lib.hid B1
      have hsn : l.take (k + 1) = l.take k ++ [o] := by rw [List.take_add_one, ho]; rfl
      have HT := Lib.hid hsn
      have hkl : (l.take k).length ≤ 1000000 := by rw [List.length_take]; omega
      have hlen : ((l.take k).length + 1) * 312 ≤ 140737488355328 := by omega
      clear ho hO hcs hsn hkl
      go_wp2_with (first
        | ((with_reducible refine wpList_load_any rfl 48 (.tmp 14) rfl (ad.add (k * 32)) ?l1 cs _ ?l2 Tryd.underlying48 ?l3 ?l4 ?_); (case l1 => rfl); (case l2 => exact B1.out); (case l3 => rfl); (case l4 => exact hi1.out))
        | (go_at_call 50; (with_reducible refine QL.out.mono ?_); rintro e w1 ⟨u4, u27, rfl, HM, hb1⟩; have hc1 : (o.cells u4 u27).all (·.oneCell') = true := (Array.all_eq_true_iff_forall_mem.2 fun u hu => kO.K_one (kO.K_of_M HM) u (by simpa using hu)); replace HM := Lib.hid HM; clear QL)
        | ((with_reducible refine wpList_store_blk rfl 48 (.tmp 5) (.tmp 16) rfl w1.heap.size 48 ?c0 (o.cells u4 u27) ?c1 ?c2 ?c3 ?c4 ?c5 ?c6 ?_); (case c1 => rfl); (case c2 => rfl); (case c3 => exact heap_alloc_new _ _); (case c4 => exact infoO1); (case c5 => rfl); (case c6 => exact hc1); intro w2 G hk hb hz; obtain ⟨hA, hB2⟩ := copy_step hI.out.1 hI.out.2 hb1 HM.out hk (hb _ _ (Below.alloc (hb1.mono (Nat.le_refl _)) hb1.size _) hb1.size); have HA := Lib.hid hA; have HG := Lib.hid G; have HB2 := Lib.hid hB2; have hw2 : Hid (w.heap.size ≤ w2.heap.size) := Lib.hid hB2.size; obtain ⟨gx, hgx⟩ : ∃ g, g = w1.heap.size := ⟨_, rfl⟩; rw [← hgx] at HG ⊢; clear G hk hb hz hA hB2 hgx HM hb1 hc1)
        | ((with_reducible refine wpList_load_blk rfl 48 (.tmp 5) rfl gx 48 ?m1 (o.cells u4 u27) _ ?m2 Tryd.underlying48 ?m3 ?m4 ?_); (case m1 => rfl); (case m2 => exact HG.out); (case m3 => rfl); (case m4 => exact infoO1))
        | ((with_reducible refine wpList_build1 rfl 22 48 (.tmp 18) rfl (o.cells u4 u27) ?d1 ?d2 32 312 Tryd.underlying22 ?d3 ?d4 (by omega) (by omega) ?d5 ?_); (case d1 => rfl); (case d3 => exact infoO); (case d4 => rfl); (case d5 => rfl))
        | (at_builtin; refine Kd.R_append kO (w0 := w) (W := w2) w.heap.size rfl (.tmp 17) (.tmp 19) 22 48 (.agg (Ob.zero.cells (.slice none 0 0) (.slice none 0 0))) 312 rfl Tryd.underlying22 infoO rfl (by decide) (by omega) u3 (l.take k) o (o.cells u4 u27).toList (fun _ => True) (fun k => wr.heap.size ≤ k) rfl rfl HA.out.1 HA.out.2.2 (fun _ _ => trivial) HA.out.2.1 HB2.out hw2.out hlen ?_; intro v1 w6 hR6 hB6 hg6 hat6))
      go_roundw
      case rel => exact ⟨k + 1, by go_num, by omega, Lib.hid ⟨by rw [HT.out]; exact hR6, hB6⟩⟩
      case measure => simp [intOf]; omega
    · obtain rfl : n = k := by omega
      have hI1 := hI.out.1
      rw [List.take_of_length_le (Nat.le_of_eq HL.out)] at hI1
      replace hI1 := Lib.hid hI1
      go_wp2
      go_ret
      exact ⟨_, rfl, hI1.out, hI.out.2⟩
end Go.Proofs.YtoepbjgldmgaoaaDoor

/- One struct laid into a new block, in a region that draws its order; a slice of objects cut off below. -/
namespace Go.Proofs.YtoepbjgldmgaoaaDoor
open Go.RowKit Go.Proofs.YtoepbjgldmgaoaaDoorW.PrintWords Go.Proofs.YtoepbjgldmgaoaaDoorW.PrintLast
section
variable {P : Program}
theorem build1_ {ops : Array Oper} {op : Oper} {N : Option Tmp} {a : Act} {w : World} {K : Act → World → Prop} {Q : Exit → Act → World → Prop} (hw : Region.wanted op (yielded ops a.tmps) = true) (hN : op.dst = N) (t e : TypeId) (x : Operand) (ho : op.op = .buildSlice t 1 #[(0, x)]) (cs : Array Value) (hx : a.eval x = .agg cs)
    (z : Value) (n bytes : Nat) (hu : P.underlying t = some (.slice e)) (hinfo : (P.info? e).map (fun i => (i.zero, i.size, i.bytes)) = some (some z, n, bytes)) (hs : cs.size = n) (h0 : 0 < n) (hn : n ≤ 1000) (hz : z.cells.size = n)
    (h : K (a.put N (.slice (some ⟨w.heap.size, 0, none⟩) 1 1)) (w.alloc (.cells cs e))) : if Region.wanted op (yielded ops a.tmps) = true then Oper.wp P op a w K Q else K (a.put N undef) w := by
  rw [if_pos hw]
  subst hN
  obtain ⟨i0, hi, hzz⟩ := Option.map_eq_some_iff.1 hinfo
  simp only [Prod.mk.injEq] at hzz
  obtain ⟨hz0, hz1, hz2⟩ := hzz
  refine wp_buildSlice t e 1 #[(0, x)] ho cs i0 z hu hi hz0 (by rw [hz1]; omega) (by rw [hz1]; omega) ?_ h
  have hf := Great.fill_whole (s := n) h0 [Value.agg cs] ((Array.range (1 * i0.size)).map (z.cells[· % z.cells.size]!)) (fun v hv => by rw [List.mem_singleton.1 hv]; exact hs) (by simp [hz1])
  rw [hz1] at hf ⊢
  simpa [hx, Value.cells] using hf
end
theorem cut_low (A : Option Addr) (n c m : Nat) (hm : m ≤ n) (hc : n ≤ c) :
    ∃ A' : Option Addr, (∀ W : World, (Instr.slice 22 (.slice A n c) (some (.int .i64 (m : Int))) none none).run Tryd.prog W = .ok (.slice A' (n - m) (c - m)) W) ∧
      ∀ (w : World) (xs : List Ob), xs.length = n → kO.C w A n xs → kO.C w A' (xs.drop m).length (xs.drop m) := by
  have ht := Tryd.underlying22
  obtain ⟨i0, hi, hzz⟩ := Option.map_eq_some_iff.1 infoO
  simp only [Prod.mk.injEq] at hzz
  obtain ⟨_, hz1, _⟩ := hzz
  refine ⟨if c = m then A else A.map (·.add (m * 32)), fun W => ?_, fun w xs hl h => ?_⟩
  · have hel : Tryd.prog.elem 22 = 48 := by simp [Program.elem, ht]
    have hu : Tryd.prog.underlying 22 = some (.slice (Tryd.prog.elem 22)) := by rw [hel]; exact ht
    rw [run_slice_l W 22 A n c hu .i64 (m : Int) (Int.natCast_nonneg _) (by omega), hel]
    simp [sizeOf, typeInfo, hi, hz1, sliced, Result.andThen]
  · subst hl
    exact Kd.C_drop (k := kO) h hm hc
end Go.Proofs.YtoepbjgldmgaoaaDoor

/- append to a row of one's own: what it held stays where it lay, whether the row moves or not. -/
namespace Go.Proofs.YtoepbjgldmgaoaaDoor
open Go.RowKit Go.Proofs.YtoepbjgldmgaoaaDoorW.PrintWords Go.Proofs.YtoepbjgldmgaoaaDoorW.PrintLast
section
variable {P : Program}
theorem run_append_keep (w : World) (base : Nat) (t ty e : TypeId) (i : TypeInfo) (z : Value) (size bytes : Nat) (ht : P.underlying t = some (.slice e)) (hi : P.info? e = some i) (hz : i.zero = some z)
    (hsize : i.size = size) (hby : i.bytes = bytes) (hzs : z.cells.size = size) (hsz : 0 < size)
    (v : Value) (n : Nat) (xs : List Value) (hown : w.ownsRow base e size v n xs)
    (a : Addr) (m c : Nat) (news : List Value) (hl : news.length = m * size) (hnews : ∀ j u, news[j]? = some u → w.cell? (a.add j) = some u) (h1 : ∀ u ∈ news, u.oneCell' = true)
    (h63 : n + m ≤ maxLen) (hbytes : (n + m) * bytes ≤ 140737488355328) (hbase : base ≤ w.heap.size) :
    ∃ v' w', (Builtin.append_ #[t, t] ty #[v, .slice (some a) m c]).run P w = .ok v' w' ∧ w'.ownsRow base e size v' (n + m) (xs ++ news) ∧ w.grownBy w' v.ownBlock ∧
      (v'.ownBlock = v.ownBlock ∨ v'.ownBlock = some w.heap.size) ∧ ∀ g q, v.ownBlock = some g → q < n * size → w'.cell? ⟨g, q, none⟩ = w.cell? ⟨g, q, none⟩ := by
  obtain ⟨v', w', hr, h2, h3, _, h5⟩ := run_append_own_at (P := P) w base t ty e i z size bytes ht hi hz hsize hby hzs hsz v n xs hown a m c news hl hnews h1 h63 hbytes hbase
  refine ⟨v', w', hr, h2, h3, h5, fun g q hg hq => ?_⟩
  subst hsize
  subst hby
  have hsmall : n + m ≤ 9223372036854775807 := by simp only [maxLen] at h63; omega
  have hown' := hown
  rcases hown.2 with ⟨rfl, _⟩ | ⟨g0, cap, cur, rfl, hbg, hh, hnc, hcm, hcs, htake⟩
  · simp [Value.ownBlock] at hg
  · obtain rfl : g0 = g := by simpa [Value.ownBlock] using hg
    have hqc : q < cur.size := by
      rw [hcs]
      exact Nat.lt_of_lt_of_le hq (Nat.mul_le_mul_right _ hnc)
    by_cases hroom : n + m ≤ cap
    · have hfit : n * i.size + news.length ≤ cur.size := by rw [hl, hcs, ← Nat.add_mul]; exact Nat.mul_le_mul_right _ hroom
      have hr2 := run_append_room (P := P) w t ty e i ht hi g0 n cap cur hh a m c news hl hnews h1 hroom hfit
      rw [hr] at hr2
      injection hr2 with _ hw
      subst hw
      rw [cell_of_row _ g0 q _ e _ (setRow_heap w g0 cur _ e _ hh), cell_of_row _ g0 q cur e _ hh]
      have : q < (cur.toList.take (n * i.size)).length := by rw [List.length_take, Array.length_toList]; omega
      simp [List.getElem?_append_left this, List.getElem?_take, hq]
    · have holds : ∀ j u, xs[j]? = some u → w.cell? ((⟨g0, 0, none⟩ : Addr).add j) = some u := hown.cells (g := g0) rfl
      have hr2 := run_append_grow (P := P) w t ty e i z ht hi hz ⟨g0, 0, none⟩ n cap xs hown.1 holds a m c news hl hnews (by omega) (by omega) (growslice_fits (by omega) hbytes)
      rw [hr] at hr2
      injection hr2 with _ hw
      subst hw
      have hlt : g0 < w.heap.size := blkLt hh
      have e1 : ∀ o, (w.drew.alloc o).heap[g0]? = w.drew.heap[g0]? := fun o => heap_alloc_old w.drew o hlt
      unfold World.cell?
      simp only [e1]
      rfl
theorem R_append_keep {ops : Array Oper} {rest : List Oper} {o : Oper} {a : Act} {Q : Exit → Act → World → Prop} {α : Type} (d : Kd α) {w0 W : World} (base : Nat) (hgd : o.guard = none) (s x : Operand) (t e : TypeId) (z : Value) (bytes : Nat)
    (ho : o.op = .call { callee := .builtin .append, args := #[s, x], argTypes := #[t, t] })
    (ht : P.underlying t = some (.slice e)) (hinfo : (P.info? e).map (fun i => (i.zero, i.size, i.bytes)) = some (some z, d.sz, bytes)) (hz : z.cells.size = d.sz) (hs0 : 0 < d.sz) (hb0 : 0 < bytes)
    (v : Value) (xs : List α) (p : α) (cs : List Value) (ok okp : Nat → Prop) (hs : a.eval s = v) (hx : a.eval x = .slice (some ⟨W.heap.size, 0, none⟩) 1 1) (hp : d.M W base okp p cs) (hokp : ∀ k, okp k → ok k ∧ some k ≠ v.ownBlock) (hfresh : ∀ k, W.heap.size ≤ k → ok k)
    (HO : d.R e W base ok v xs) (HB : Below base w0 W) (hbase : base ≤ W.heap.size) (hl : (xs.length + 1) * bytes ≤ 140737488355328)
    (h : ∀ v1 w1, d.R e w1 base ok v1 (xs ++ [p]) → Below base w0 w1 → W.grownBy w1 v.ownBlock → (v1.ownBlock = v.ownBlock ∨ ∃ b, v1.ownBlock = some b ∧ W.heap.size ≤ b) → (∀ g q, v.ownBlock = some g → q < xs.length * d.sz → w1.cell? ⟨g, q, none⟩ = W.cell? ⟨g, q, none⟩) → wpList P ops Q rest (a.put o.dst v1) w1) :
    wpList P ops Q (o :: rest) a (W.alloc (.cells cs.toArray e)) := by
  obtain ⟨h0, inner, hown, hr⟩ := HO
  obtain ⟨i0, hi, hzz⟩ := Option.map_eq_some_iff.1 hinfo
  simp only [Prod.mk.injEq] at hzz
  obtain ⟨hz0, hz1, hz2⟩ := hzz
  have hlen : xs.length + 1 ≤ 140737488355328 := Nat.le_trans (Nat.le_mul_of_pos_right _ hb0) hl
  have hcl : cs.length = d.sz := d.K_len (d.K_of_M hp)
  have hown0 := hown
  obtain ⟨v1, w1, hrun, hown1, hg1, hat1, hkeep⟩ := run_append_keep (P := P) (W.alloc (.cells cs.toArray e)) base t o.type e i0 z d.sz bytes ht hi hz0 hz1 hz2 hz hs0 v xs.length inner (hown.alloc _) ⟨W.heap.size, 0, none⟩ 1 1 cs (by rw [hcl, Nat.one_mul])
    (by simpa using World.news_of_block (cs := cs.toArray) (t := e) (fr := (0, 0)) (heap_alloc_new W _)) (d.K_one (d.K_of_M hp)) (by simp only [maxLen]; omega) hl (by simp; omega)
  refine wpList_plain hgd fun K hK => ?_
  unfold Oper.wp execOp
  simp only [ho, resolve, invoke, builtin, Sem.run_bind, Sem.run_pure, Result.andThen_ok, List.map_toArray, List.map_cons, List.map_nil, hs, hx, hrun]
  have hat : v1.ownBlock = v.ownBlock ∨ ∃ b, v1.ownBlock = some b ∧ W.heap.size ≤ b := by
    rcases hat1 with hat | hat
    · exact .inl hat
    · exact .inr ⟨_, hat, by simp⟩
  have hg : W.grownBy w1 v.ownBlock := World.grownBy.trans (World.grownBy_alloc W _ _) hg1
  refine hK _ _ (h v1 w1 (Kd.R_appended h0 hr hp hokp hfresh hown1 hg hat) ((HB.alloc hbase _).grown hg1 (by simp; omega) (own_base hown0)) hg hat (fun g q hgb hq => ?_))
  rw [hkeep g q hgb hq]
  unfold World.cell?
  rw [heap_alloc_old W _ (own_lt hown0 g hgb)]
end
end Go.Proofs.YtoepbjgldmgaoaaDoor

/- ApartLabels' second loop, plainly: lists that are appended to, in place or moved. -/
namespace Go.Proofs.YtoepbjgldmgaoaaDoor
open Go.RowKit Go.Proofs.YtoepbjgldmgaoaaDoorW.PrintWords Go.Proofs.YtoepbjgldmgaoaaDoorW.PrintLast
theorem cell_same {w w' : World} {a : Addr} (h : w'.heap[a.block]? = w.heap[a.block]?) : w'.cell? a = w.cell? a := by
  unfold World.cell?
  rw [h]
theorem add_block (a : Addr) (k : Nat) : (a.add k).block = a.block := by unfold Addr.add; split <;> rfl
theorem OnlyB.grown' {G : Nat → Prop} {w W w1 : World} {row : Option Nat} (h : OnlyB G w W) (hg : W.grownBy w1 row) (hr : ∀ k, row = some k → G k ∨ w.heap.size ≤ k) : OnlyB G w w1 :=
  ⟨hg.os.trans h.os, hg.tape.trans h.tape, hg.output.trans h.output, Nat.le_trans h.size hg.size, fun k hk hn => (hg.block k (Nat.lt_of_lt_of_le hk h.size) (fun e => by
    rcases hr k e.symm with h1 | h1
    · exact hn h1
    · omega)).trans (h.block k hk hn)⟩
structure Gs (w wa : World) (base : Nat) (V G : List Value) (n : Nat → Nat) : Prop where
  row : ∀ (j : Nat) (u : Value), G[j]? = some u → kL.R 98 w base (fun b => some b = u.ownBlock) u (marksK j (n j + 64))
  old : ∀ (j : Nat) (u v : Value), G[j]? = some u → V[j]? = some v → ∀ b, u.ownBlock = some b → v.ownBlock = some b ∨ wa.heap.size ≤ b
theorem Gs.below {w wa w1 : World} {base : Nat} {V G : List Value} {n : Nat → Nat} (h : Gs w wa base V G n) (hb : Below w.heap.size w w1) : Gs w1 wa base V G n := ⟨fun j u hu => Kd.R_below (h.row j u hu) hb, h.old⟩
theorem Gs.other {wa wo W w1 : World} {base k : Nat} {V G : List Value} {n : Nat → Nat} (h : Gs W wa base V G n) (hG : Gs wo wa base V G n) (hl : G.length = k) (ha : ApartV V) {v u : Value} (hv : V[k]? = some v) (hvl : ∀ b, v.ownBlock = some b → b < wa.heap.size) (hlt : G.length ≤ V.length)
    (hu : ∀ b, u.ownBlock = some b → v.ownBlock = some b ∨ wo.heap.size ≤ b) (hg : W.grownBy w1 u.ownBlock) : Gs w1 wa base V G n := by
  refine ⟨fun j x hx => ?_, h.old⟩
  have hr := h.row j x hx
  refine Kd.R_move hr (fun b hb => hg.block b (Kd.R_lt hr b hb.symm) (fun e => ?_))
  have hj : j < G.length := (List.getElem?_eq_some_iff.1 hx).1
  obtain ⟨vj, hvj⟩ : ∃ vj, V[j]? = some vj := ⟨_, List.getElem?_eq_getElem (by omega)⟩
  rcases hu b e.symm with h1 | h1
  · rcases h.old j x vj hx hvj b hb.symm with h2 | h2
    · exact ha j k vj v (by omega) hvj hv b h2 h1
    · have := hvl b h1
      omega
  · have := Kd.R_lt (hG.row j x hx) b hb.symm
    omega
theorem LabK.keep {w w1 : World} {l : List Lab} {v : Value} (h : LabK w l v) (hs : ∀ ad c, v = .slice (some ad) l.length c → ∀ q, q < l.length * 2 → w1.cell? (ad.add q) = w.cell? (ad.add q)) : LabK w1 l v := by
  obtain ⟨A, c, rfl, hl, hr⟩ := h
  refine ⟨A, c, rfl, hl, hr.1, hr.2.1, fun hp => ?_⟩
  obtain ⟨ad, e, hc⟩ := hr.2.2 hp
  subst e
  refine ⟨ad, rfl, fun j p hj => ?_⟩
  obtain ⟨cs, h1, h2, h3⟩ := hc j p hj
  have hjl : j < l.length := (List.getElem?_eq_some_iff.1 hj).1
  refine ⟨cs, h1, QLb.k98_open h2 ▸ QLb.k98_mk w1 p, fun i u hu => ?_⟩
  have hi : i < 2 := by
    have := (List.getElem?_eq_some_iff.1 hu).1
    rw [h1] at this
    exact this
  have hsz : kL.sz = 2 := rfl
  rw [hsz] at h3 ⊢
  rw [hs ad c rfl (j * 2 + i) (by omega)]
  exact h3 i u hu
theorem LabK.same {w w1 : World} {l : List Lab} {v : Value} (h : LabK w l v) (hs : ∀ b, v.ownBlock = some b → w1.heap[b]? = w.heap[b]?) : LabK w1 l v :=
  h.keep fun ad c e q _ => cell_same (a := ad.add q) (by rw [add_block]; exact hs ad.block (by rw [e]; rfl))
structure BI (w wa W : World) (base : Nat) (V G : List Value) (n : Nat → Nat) (v5 : Value) (m : Nat) : Prop where
  rd : ∀ (j : Nat) (v : Value), V[j]? = some v → LabK W (marksK j (n j)) v
  todo : ∀ (j : Nat) (v : Value), m ≤ j → V[j]? = some v → kL.R 98 W base (fun b => some b = v.ownBlock) v (marksK j (n j))
  gs : Gs W wa base V G n
  row : (Kd.raw 1).R 43 W wa.heap.size (fun _ => True) v5 (G.map fun u => [u])
  only : OnlyB (inV V) w W
theorem BI.below {w wa W w1 : World} {base : Nat} {V G : List Value} {n : Nat → Nat} {v5 : Value} {m : Nat} (h : BI w wa W base V G n v5 m) (hb : Below W.heap.size W w1) : BI w wa w1 base V G n v5 m :=
  ⟨fun j v hv => (h.rd j v hv).below hb, fun j v hm hv => Kd.R_below (h.todo j v hm hv) hb, h.gs.below hb, Kd.R_below h.row hb, h.only.trans (OnlyB.of_below hb)⟩
theorem BI.step {w wa wo W w1 : World} {base k : Nat} {V G : List Value} {n : Nat → Nat} {v5 u v : Value} {xs : List Lab} (h : BI w wa W base V G n v5 (k + 1)) (hG : Gs wo wa base V G n) (hl : G.length = k) (ha : ApartV V) (hv : V[k]? = some v) (hV : ∀ x ∈ V, ∀ b, x.ownBlock = some b → b < wa.heap.size) (hww : w.heap.size ≤ wa.heap.size) (hwo : wa.heap.size ≤ wo.heap.size) (hwW : wo.heap.size ≤ W.heap.size)
    (hv0 : ∀ ad c, v = .slice (some ad) (n k) c → ad.off = 0 ∧ ad = ⟨ad.block, 0, none⟩)
    (hu : ∀ b, u.ownBlock = some b → v.ownBlock = some b ∨ wo.heap.size ≤ b) (hR : kL.R 98 W base (fun _ => True) u xs) (hxs : n k ≤ xs.length) (hg : W.grownBy w1 u.ownBlock)
    (hkeep : ∀ g q, u.ownBlock = some g → q < xs.length * 2 → w1.cell? ⟨g, q, none⟩ = W.cell? ⟨g, q, none⟩) : BI w wa w1 base V G n v5 (k + 1) := by
  have hVo : ∀ j x, V[j]? = some x → j ≠ k → ∀ b, x.ownBlock = some b → u.ownBlock ≠ some b := fun j x hx hj b hb e => by
    rcases hu b e with h1 | h1
    · exact ha k j v x (fun e => hj e.symm) hv hx b h1 hb
    · have := hV x (List.mem_of_getElem? hx) b hb
      omega
  have hlt : ∀ x ∈ V, ∀ b, x.ownBlock = some b → b < W.heap.size := fun x hx b hb => by
    have := hV x hx b hb
    omega
  refine ⟨fun j x hx => ?_, fun j x hm hx => ?_, ?_, ?_, ?_⟩
  · by_cases hj : j = k
    · subst hj
      rw [hv] at hx
      obtain rfl := Option.some.inj hx
      have h0 := h.rd j v hv
      refine h0.keep fun ad c e q hq => ?_
      rw [marksK_length] at e hq
      obtain ⟨_, e2⟩ := hv0 ad c e
      by_cases hub : u.ownBlock = some ad.block
      · rw [e2, add_at, Nat.zero_add]
        exact hkeep ad.block q hub (by omega)
      · refine cell_same (a := ad.add q) ?_
        rw [add_block]
        exact hg.block _ (hlt v (List.mem_of_getElem? hv) _ (by rw [e]; rfl)) (fun e' => hub e'.symm)
    · exact (h.rd j x hx).same fun b hb => hg.block b (hlt x (List.mem_of_getElem? hx) b hb) (fun e => hVo j x hx hj b hb e.symm)
  · have hr := h.todo j x hm hx
    exact Kd.R_move hr (fun b hb => hg.block b (Kd.R_lt hr b hb.symm) (fun e => hVo j x hx (by omega) b hb.symm e.symm))
  · exact h.gs.other hG hl ha hv (fun b hb => hV v (List.mem_of_getElem? hv) b hb) (by rw [hl]; exact Nat.le_of_lt (List.getElem?_eq_some_iff.1 hv).1) hu hg
  · exact Kd.R_over' h.row (Kd.R_typed hR) (fun q hq => by
      rcases List.mem_cons.1 hq with rfl | hq
      · decide
      · cases hq) hg
  · exact h.only.grown' hg (fun b hb => by
      rcases hu b hb with h1 | h1
      · exact .inl ⟨v, List.mem_of_getElem? hv, h1⟩
      · exact .inr (by omega))
theorem BI.next {w wa wo W w1 : World} {base k : Nat} {V G : List Value} {n : Nat → Nat} {v5 v5' u v : Value} (h : BI w wa W base V G n v5 (k + 1)) (hl : G.length = k) (hv : V[k]? = some v) (hwa : wa.heap.size ≤ wo.heap.size)
    (hu : ∀ b, u.ownBlock = some b → v.ownBlock = some b ∨ wo.heap.size ≤ b) (hR : kL.R 98 W base (fun _ => True) u (marksK k (n k + 64)))
    (hV : ∀ x ∈ V, ∀ b, x.ownBlock = some b → b < wa.heap.size) (hwaW : wa.heap.size ≤ W.heap.size)
    (hrow : (Kd.raw 1).R 43 w1 wa.heap.size (fun _ => True) v5' (G.map (fun u => [u]) ++ [[u]])) (hg : W.grownBy w1 v5.ownBlock) (hbase : w.heap.size ≤ wa.heap.size) : BI w wa w1 base V (G ++ [u]) n v5' (k + 1) := by
  have hty := Kd.R_typed h.row
  have hne : ∀ b : Nat, (∃ cells, W.heap[b]? = some (Obj.cells cells 98 (0, 0))) → some b ≠ v5.ownBlock := fun b ⟨c, hc⟩ e => by
    obtain ⟨c', hc'⟩ := hty b e.symm
    rw [hc] at hc'
    injection hc' with hc'
    injection hc' with _ hc'
    exact absurd hc' (by decide)
  have hk : ∀ b : Nat, (∃ cells, W.heap[b]? = some (Obj.cells cells 98 (0, 0))) → w1.heap[b]? = W.heap[b]? := fun b hb => by
    obtain ⟨c, hc⟩ := hb
    exact hg.block b (blkLt hc) (hne b ⟨c, hc⟩)
  have hmv : ∀ {ok : Nat → Prop} {x : Value} {l : List Lab}, kL.R 98 W base ok x l → kL.R 98 w1 base (fun b => some b = x.ownBlock) x l := fun {ok x l} hr => Kd.R_move (Kd.R_tight rfl hr) (fun b hb => hk b (Kd.R_typed hr b hb.symm))
  refine ⟨fun j x hx => ?_, fun j x hm hx => hmv (h.todo j x hm hx), ⟨fun j x hx => ?_, fun j x y hx hy b hb => ?_⟩, by rw [List.map_append]; exact hrow, h.only.grown' hg (fun b hb => .inr (by have := Kd.R_base h.row b hb; omega))⟩
  · exact (h.rd j x hx).same fun b hb => hg.block b (by have := hV x (List.mem_of_getElem? hx) b hb; omega) (fun e => by
      have := Kd.R_base h.row b e.symm
      have := hV x (List.mem_of_getElem? hx) b hb
      omega)
  · rcases Nat.lt_or_ge j G.length with hj | hj
    · rw [List.getElem?_append_left hj] at hx
      exact hmv (h.gs.row j x hx)
    · have hjk : j = G.length := by
        have := (List.getElem?_eq_some_iff.1 hx).1
        rw [List.length_append, List.length_singleton] at this
        omega
      subst hjk
      obtain rfl : u = x := by simpa using hx
      rw [hl]
      exact hmv hR
  · rcases Nat.lt_or_ge j G.length with hj | hj
    · rw [List.getElem?_append_left hj] at hx
      exact h.gs.old j x y hx hy b hb
    · have hjk : j = G.length := by
        have := (List.getElem?_eq_some_iff.1 hx).1
        rw [List.length_append, List.length_singleton] at this
        omega
      subst hjk
      obtain rfl : u = x := by simpa using hx
      rw [hl, hv] at hy
      obtain rfl := Option.some.inj hy
      rcases hu b hb with h1 | h1
      · exact .inl h1
      · exact .inr (by omega)
end Go.Proofs.YtoepbjgldmgaoaaDoor

/- ApartLabels walked: lists of labels, each of its own, are written over and appended to, and hold what was written. -/
namespace Go.Proofs.YtoepbjgldmgaoaaDoor
open Go.RowKit Go.Proofs.YtoepbjgldmgaoaaDoorW.PrintWords Go.Proofs.YtoepbjgldmgaoaaDoorW.PrintLast
structure RowV (w : World) (ad : Addr) (V : List Value) : Prop where
  cells : ∀ k v, V[k]? = some v → w.cell? (ad.add k) = some v
  here : ad.block < w.heap.size
  out : ¬ inV V ad.block
theorem RowV.only {w w' : World} {ad : Addr} {V : List Value} (h : RowV w ad V) (hb : OnlyB (inV V) w w') : RowV w' ad V :=
  ⟨fun k v hv => (cell_same (w := w) (w' := w') (a := ad.add k) (by rw [add_block]; exact hb.block _ h.here h.out)).trans (h.cells k v hv), Nat.lt_of_lt_of_le h.here hb.size, h.out⟩
theorem labK_R {w : World} {base : Nat} {ok : Nat → Prop} {v : Value} {l : List Lab} (h : kL.R 98 w base ok v l) : LabK w l v := LabK.of_R h
theorem set_mark (k i : Nat) (l : List Lab) (hi : i < l.length) : (marksK k i ++ l.drop i).set i (markK k i) = marksK k (i + 1) ++ l.drop (i + 1) := by
  rw [List.set_append_right _ _ (by rw [marksK_length]; exact Nat.le_refl _), marksK_length, Nat.sub_self, List.drop_eq_getElem_cons hi, List.set_cons_zero, marksK_succ, List.append_assoc]
  rfl
section
variable {P : Program}
theorem wpList_buildOne {ops : Array Oper} {rest : List Oper} {op : Oper} {a : Act} {w : World} {Q : Exit → Act → World → Prop} (hgd : op.guard = none) (t e : TypeId) (x : Operand) (ho : op.op = .buildSlice t 1 #[(0, x)]) (v : Value) (hx : a.eval x = v) (hv : v.cells = #[v])
    (z : Value) (bytes : Nat) (hu : P.underlying t = some (.slice e)) (hinfo : (P.info? e).map (fun i => (i.zero, i.size, i.bytes)) = some (some z, 1, bytes))
    (h : wpList P ops Q rest (a.put op.dst (.slice (some ⟨w.heap.size, 0, none⟩) 1 1)) (w.alloc (.cells #[v] e))) : wpList P ops Q (op :: rest) a w := by
  obtain ⟨i0, hi, hzz⟩ := Option.map_eq_some_iff.1 hinfo
  simp only [Prod.mk.injEq] at hzz
  obtain ⟨hz0, hz1, hz2⟩ := hzz
  refine wpList_buildSlice hgd t e 1 #[(0, x)] ho #[v] i0 z hu hi hz0 (by rw [hz1]; omega) (by rw [hz1]; omega) ?_ h
  have hf := Great.fill_whole (s := 1) Nat.one_pos [v] ((Array.range (1 * i0.size)).map (z.cells[· % z.cells.size]!)) (fun q hq => by rw [List.mem_singleton.1 hq, hv]; rfl) (by simp [hz1])
  rw [hz1] at hf ⊢
  simpa [hx, hv] using hf
end
theorem infoLs : (Tryd.prog.info? 43).map (fun i => (i.zero, i.size, i.bytes)) = some (some (.slice none 0 0), 1, 24) := by kernel_rfl
theorem rawSome {W : World} {A : Option Addr} {n k : Nat} {G : List Value} {u : Value} (h : (Kd.raw 1).C W A n (G.map fun u => [u])) (hu : G[k]? = some u) : ∃ ad, A = some ad := by
  have hk : k < G.length := (List.getElem?_eq_some_iff.1 hu).1
  have hn := h.1
  rw [List.length_map] at hn
  obtain ⟨ad, e, _⟩ := h.2.2 (by omega)
  exact ⟨ad, e⟩
theorem rawCell {W : World} {ad : Addr} {n k : Nat} {G : List Value} {u : Value} (h : (Kd.raw 1).C W (some ad) n (G.map fun u => [u])) (hu : G[k]? = some u) : W.cell? (ad.add k) = some u := by
  have hk : k < G.length := (List.getElem?_eq_some_iff.1 hu).1
  have hn := h.1
  rw [List.length_map] at hn
  obtain ⟨ad', e, hc⟩ := h.2.2 (by omega)
  obtain rfl := Option.some.inj e
  obtain ⟨cs, _, h2, h3⟩ := hc k [u] (by rw [List.getElem?_map, hu]; rfl)
  have h4 := h3 0 u (by rw [h2.1]; rfl)
  have hsz : (Kd.raw 1).sz = 1 := rfl
  rw [hsz] at h4
  simpa using h4
def rg59_7_T : Bool × List (List Nat × List Nat) := (true, [([], []), ([], []), ([0, 1], [0, 1]), ([2], [2]), ([], []), ([], []), ([], []), ([5, 6], [5, 6]), ([3, 4, 0, 1, 2, 3, 4, 5, 6, 7], [3, 4]), ([8, 7, 7, 0, 1, 2, 3, 4, 5, 6, 7], [7, 8])])
def rg59_7_B : List Nat := [0, 0, 3, 7, 0, 0, 0, 96, 255, 511]
theorem rg59_7_tab : rtab .any (opsOf Tryd.f59 7) = rg59_7_T := by kernel_rfl
theorem rg59_7_bits : waitsOk rg59_7_T.2 rg59_7_B = true := by kernel_rfl
set_option maxHeartbeats 4000000 in
set_option maxRecDepth 100000 in
theorem apartLabels_calls (ad : Addr) (cap N : Nat) (V : List Value) (LS : Nat → List Lab) (w : World) (base : Nat) (hVN : V.length = N) (hN : N ≤ 1000000) (hbase : base ≤ w.heap.size) (hrow : RowV w ad V) (hB : Bk w base V LS) (ha : ApartV V) (hlen : ∀ k, k < N → (LS k).length ≤ 4398046510976) :
    Calls Tryd.prog 59 #[.slice (some ad) N cap] w fun e w' => e = .returned (.bool true) ∧ OnlyB (inV V) w w' := by
  have HRow := Lib.hid hrow
  have HBk := Lib.hid hB
  have HA := Lib.hid ha
  have HL := Lib.hid (And.intro hVN hlen)
  clear hrow hB ha hVN hlen
  go_enter Tryd.func59, Tryd.ntmps59
  go_wp2
  go_loopw [3] (fun v3 wr => ∃ k : Nat, k ≤ N ∧ v3 = .int .i64 k ∧ Hid (Bk wr base V (fun j => if j < k then marksK j (LS j).length else LS j) ∧ OnlyB (inV V) w wr)) (fun v3 _ => N - (intOf v3).toNat)
  case atStart => exact ⟨0, Nat.zero_le _, rfl, Lib.hid ⟨HBk.out.congr (fun k _ => by rw [if_neg (by omega)]), OnlyB.refl _ _⟩⟩
  case round =>
    obtain ⟨k, hk, rfl, hI⟩ := hrel
    by_cases hkn : k < N
    · obtain ⟨v, hv⟩ : ∃ v, V[k]? = some v := ⟨_, List.getElem?_eq_getElem (by have := HL.out.1; omega)⟩
      have hr := hI.out.1.row k v hv
      rw [if_neg (Nat.lt_irrefl k)] at hr
      obtain ⟨Ak, ck, rfl⟩ := Kd.R_slice hr
      obtain ⟨n, hn⟩ : ∃ n, n = (LS k).length := ⟨_, rfl⟩
      have hnb : n ≤ 4398046510976 := by rw [hn]; exact HL.out.2 k hkn
      rw [← hn] at hv hr
      have hlk : (k : Int) < (N : Int) := by omega
      have HV := Lib.hid (And.intro hv hn)
      clear hv hr hn
      go_wp2
      rename World => wo
      go_loopw [4] (fun v4 wr => ∃ i : Nat, i ≤ n ∧ v4 = .int .i64 i ∧ Hid (Bk wr base V (fun j => if j < k then marksK j (LS j).length else if j = k then marksK k i ++ (LS k).drop i else LS j) ∧ OnlyB (inV V) w wr)) (fun v4 _ => n - (intOf v4).toNat)
      case atStart => exact ⟨0, Nat.zero_le _, rfl, Lib.hid ⟨hI.out.1.congr (fun j _ => by
        by_cases h1 : j < k
        · rw [if_pos h1, if_pos h1]
        · rw [if_neg h1, if_neg h1]
          by_cases h2 : j = k
          · subst h2; rw [if_pos rfl]; rfl
          · rw [if_neg h2]), hI.out.2⟩⟩
      case round =>
        obtain ⟨i, hi, rfl, hJ⟩ := hrel
        have q1 := (HRow.out.only hJ.out.2).cells k _ HV.out.1
        by_cases hin : i < n
        · have hr := hJ.out.1.row k _ HV.out.1
          rw [if_neg (Nat.lt_irrefl k), if_pos rfl] at hr
          have hxl : (marksK k i ++ (LS k).drop i).length = n := by rw [List.length_append, marksK_length, List.length_drop, ← HV.out.2]; omega
          obtain ⟨g, cap', e, _, _, _⟩ := Kd.R_form hr (by omega)
          rw [hxl] at e
          injection e with e1 _ e3
          subst e1
          subst e3
          obtain ⟨s0, s1, hm⟩ : ∃ s0 s1, markK k i = ⟨s0, s1⟩ := ⟨_, _, rfl⟩
          have QM := fun W => markK_calls k i W
          rw [hm] at QM
          replace QM := Lib.hid QM
          have HRk := Lib.hid hr
          have HM := Lib.hid (And.intro hm (show i < (LS k).length by rw [← HV.out.2]; exact hin))
          have HRw := Lib.hid (HRow.out.only hJ.out.2)
          have HB1 := below_drew (Below.refl wr.heap.size wr)
          have hini : (i : Int) < (n : Int) := by omega
          clear hr hxl hm
          go_upto_region 7 with (fail)
          refine start_ (n := 10) (S := fun w' => Below wr.heap.size wr w' ∧ w'.cell? (ad.add k) = some (.slice (some ⟨g, 0, none⟩) n ck)) (ds := [9]) (bs 10 0) (by kernel_rfl) rfl (by kernel_rfl) ⟨HB1, (HRw.out.only (OnlyB.of_below HB1)).cells k _ HV.out.1⟩ (fun hHeld => ?_)
          refine with_tabW rg59_7_tab rg59_7_bits (fun HT_ HW_ => ?_)
          refine pu 0 (some 27) (bs 10 1) HT_ rfl rfl (by kernel_rfl) (fun _ _ _ _ h => h) ⟨_, .inl ⟨by rfl, fun _ => by go_simp; with_reducible rfl⟩, _, by simp only [Act.put, sA, sB, sC, i64_w, i32_w]; rfl, ?_⟩
          refine pu 1 (some 28) (bs 10 3) HT_ rfl rfl (by kernel_rfl) (fun _ _ _ _ h => h) ⟨_, .inl ⟨by rfl, fun _ => by go_simp; with_reducible rfl⟩, _, by simp only [Act.put, sA, sB, sC, i64_w, i32_w]; rfl, ?_⟩
          refine pu 2 (some 29) (bs 10 7) HT_ rfl rfl (by kernel_rfl) (fun _ _ _ _ h => h) ⟨_, .inl ⟨by rfl, fun _ => by go_simp; with_reducible rfl⟩, _, by simp only [Act.put, sA, sB, sC, i64_w, i32_w]; rfl, ?_⟩
          refine pu 4 (some 31) (bs 10 23) HT_ rfl rfl (by kernel_rfl) (fun _ _ _ _ h => h) ⟨_, .inl ⟨by rfl, fun _ => by go_simp; with_reducible rfl⟩, _, by simp only [Act.put, sA, sB, sC, i64_w, i32_w]; rfl, ?_⟩
          refine pu 5 (some 32) (bs 10 55) HT_ rfl rfl (by kernel_rfl) (fun _ _ _ _ h => h) ⟨_, .inl ⟨by rfl, fun _ => by go_simp; with_reducible rfl⟩, _, by simp only [Act.put, sA, sB, sC, i64_w, i32_w]; rfl, ?_⟩
          refine pu 6 (some 33) (bs 10 119) HT_ rfl rfl (by kernel_rfl) (fun _ _ _ _ h => h) ⟨_, .inl ⟨by rfl, fun _ => by go_simp; with_reducible rfl⟩, _, by simp only [Act.put, sA, sB, sC, i64_w, i32_w]; rfl, ?_⟩
          refine tk 3 (some 30) (bs 10 127) HT_ HW_ rfl rfl (by kernel_rfl) (fun _ _ _ _ h => h) hHeld ⟨_, .inl ⟨by rfl, by rintro w' ⟨s0, s1⟩; go_simp; with_reducible rfl⟩, _, by simp only [Act.put, sA, sB, sC, i64_w, i32_w]; rfl, ?_⟩
          refine on1 7 (some 34) (bs 10 255) HT_ rfl rfl (by kernel_rfl) (by decide) (fun K hK => ?_)
          refine goes_ Tryd.func93 (by kernel_rfl) rfl #[.int .i64 k, .int .i64 i] (by rfl) rfl rfl (by (try simp only [List.map_toArray, List.map_cons, List.map_nil]); first | done | rfl) ?_
          with_reducible refine (QM.out _).mono ?_
          rintro e w5 ⟨rfl, hb⟩
          replace HB1 := belT HB1 hb
          clear hb
          refine ⟨_, rfl, ?_⟩
          refine hK.out _ _ ⟨HB1, (HRw.out.only (OnlyB.of_below HB1)).cells k _ HV.out.1⟩ (fun hHeld => ?_)
          clear hK K
          refine nm ⟨_, show Act.put _ (some 34) _ = _ by simp only [Act.put, sA, sB, sC, i64_w, i32_w]; rfl, ?_⟩
          refine pu 8 (some 35) (bs 10 511) HT_ rfl rfl (by kernel_rfl) (fun _ _ _ _ h => h) ⟨_, .inl ⟨by rfl, fun _ => by go_simp; with_reducible rfl⟩, _, by simp only [Act.put, sA, sB, sC, i64_w, i32_w]; rfl, ?_⟩
          refine la1 9 (none) (bs 10 1023) HT_ rfl rfl (by kernel_rfl) (by decide) (fun K hK => ?_)
          refine storeLab_ (i := i) (p := .tmp 35) (x := .tmp 34) (by kernel_rfl) (by rfl) rfl rfl rfl rfl (Kd.R_below HRk.out HB1) hin ?_
          intro w6 hR6 hg6
          refine hK.out _ _ ?_
          clear hK K
          refine done_ (done_of HT_.out (by kernel_rfl)) ?_
          have hJ1 := hJ.out.1
          have hBk6 : Bk w6 base V (fun j => if j < k then marksK j (LS j).length else if j = k then marksK k (i + 1) ++ (LS k).drop (i + 1) else LS j) := ((hJ1.below HB1).turn HA.out HV.out.1 hg6 hR6).congr (fun j _ => by
            by_cases h2 : j = k
            · subst h2
              rw [if_pos rfl, if_neg (Nat.lt_irrefl _), if_pos rfl, ← HM.out.1]
              exact set_mark _ _ _ HM.out.2
            · simp only [h2, if_false])
          have hO6 : OnlyB (inV V) w w6 := hJ.out.2.trans ((OnlyB.of_below HB1).trans (OnlyB.of_grown hg6 (fun b hb => ⟨_, List.mem_of_getElem? HV.out.1, hb⟩)))
          replace hBk6 := Lib.hid (And.intro hBk6 hO6)
          clear hJ1 hO6 hR6 hg6 HB1 HRk HRw
          go_wp2
          go_roundw
          case rel => exact ⟨i + 1, by omega, by go_num, hBk6⟩
          case measure => simp [intOf]; omega
        · obtain rfl : n = i := by omega
          go_wp2
          go_roundw
          case rel =>
            refine ⟨k + 1, by omega, by go_num, Lib.hid ⟨hJ.out.1.congr (fun j _ => ?_), hJ.out.2⟩⟩
            by_cases h1 : j < k
            · rw [if_pos h1, if_pos (by omega)]
            · rw [if_neg h1]
              by_cases h2 : j = k
              · subst h2
                rw [if_pos rfl, if_pos (Nat.lt_succ_self _), HV.out.2, List.drop_length, List.append_nil]
              · rw [if_neg h2, if_neg (by omega)]
          case measure => simp [intOf]; omega
    · obtain rfl : N = k := by omega
      have hBm : Bk wr base V (fun j => marksK j (LS j).length) := hI.out.1.congr (fun j hj => by rw [if_pos (by have := HL.out.1; omega)])
      have HBm := Lib.hid (And.intro hBm (And.intro hI.out.2 (HRow.out.only hI.out.2)))
      clear hBm hI
      have hVlt : ∀ x ∈ V, ∀ b, x.ownBlock = some b → b < wr.heap.size := fun x hx b hb => by
        obtain ⟨j, hj⟩ := List.mem_iff_getElem?.1 hx
        exact Kd.R_lt (HBm.out.1.row j x hj) b hb
      replace hVlt := Lib.hid hVlt
      have hww : w.heap.size ≤ wr.heap.size := HBm.out.2.1.size
      rename World => wa
      go_wp2
      go_loopw [5, 6] (fun v5 v6 wr => ∃ k : Nat, k ≤ N ∧ v6 = .int .i64 k ∧ ∃ G : List Value, G.length = k ∧ Hid (BI w wa wr base V G (fun j => (LS j).length) v5 k ∧ wa.heap.size ≤ wr.heap.size)) (fun _ v6 _ => N - (intOf v6).toNat)
      case atStart => exact ⟨0, Nat.zero_le _, rfl, [], rfl, Lib.hid ⟨⟨fun j v hv => labK_R (HBm.out.1.row j v hv), fun j v _ hv => HBm.out.1.row j v hv, ⟨fun j u hu => by simp at hu, fun j u v hu => by simp at hu⟩, Kd.R_nil _ _ _ _ _, HBm.out.2.1⟩, Nat.le_refl _⟩⟩
      case round =>
        obtain ⟨k, hk, rfl, G, hG, hI⟩ := hrel
        by_cases hkn : k < N
        · obtain ⟨v, hv⟩ : ∃ v, V[k]? = some v := ⟨_, List.getElem?_eq_getElem (by have := HL.out.1; omega)⟩
          have hr := hI.out.1.todo k v (Nat.le_refl _) hv
          obtain ⟨Ak, ck, rfl⟩ := Kd.R_slice hr
          rw [marksK_length] at hr hv
          obtain ⟨n, hn⟩ : ∃ n, n = (LS k).length := ⟨_, rfl⟩
          have hnb : n ≤ 4398046510976 := by rw [hn]; exact HL.out.2 k hkn
          rw [← hn] at hv hr
          have hlk : (k : Int) < (N : Int) := by omega
          have q1 := (HRow.out.only hI.out.1.only).cells k _ hv
          have hv0 : Hid (∀ (ad : Addr) (c : Nat), Value.slice Ak n ck = .slice (some ad) n c → ad.off = 0 ∧ ad = ⟨ad.block, 0, none⟩) := Lib.hid (fun ad c e => by
            injection e with e1 _ _
            subst e1
            obtain ⟨g, e⟩ := Kd.R_head hr
            rw [e]
            exact ⟨rfl, rfl⟩)
          have HV := Lib.hid (And.intro hv hn)
          have HRk := Lib.hid hr
          clear hv hr hn
          go_wp2
          rename World => wo
          go_loopw [7, 8] (fun v7 v8 wr => ∃ j : Nat, j ≤ 64 ∧ v8 = .int .i64 j ∧ Hid (BI w wa wr base V G (fun j => (LS j).length) u5 (k + 1) ∧ wo.heap.size ≤ wr.heap.size ∧ kL.R 98 wr base (fun _ => True) v7 (marksK k (n + j)) ∧ ∀ b, v7.ownBlock = some b → (Value.slice Ak n ck).ownBlock = some b ∨ wo.heap.size ≤ b)) (fun _ v8 _ => 64 - (intOf v8).toNat)
          case atStart => exact ⟨0, by omega, rfl, Lib.hid ⟨⟨hI.out.1.rd, fun j v hm hv => hI.out.1.todo j v (by omega) hv, hI.out.1.gs, hI.out.1.row, hI.out.1.only⟩, Nat.le_refl _, Kd.R_mono HRk.out (fun _ _ => trivial), fun b hb => .inl hb⟩⟩
          case round =>
            obtain ⟨j, hj, rfl, hJ⟩ := hrel
            have q1 := (HRow.out.only hJ.out.1.only).cells k _ HV.out.1
            by_cases hj64 : j < 64
            · have g4 : decide ((j : Int) < 64) = true := decide_eq_true (by omega)
              have hw : wrap64 ((n : Int) + (j : Int)) = (n : Int) + (j : Int) := by unfold wrap64; omega
              obtain ⟨s0, s1, hm⟩ : ∃ s0 s1, markK k (n + j) = ⟨s0, s1⟩ := ⟨_, _, rfl⟩
              have QM := fun W => markK_calls k (n + j) W
              rw [hm, Int.natCast_add] at QM
              replace QM := Lib.hid QM
              have HM := Lib.hid hm
              clear hm
              go_wp2_with (first
                | (go_at_call 93; (with_reducible refine (QM.out _).mono ?_); rintro e w1 ⟨rfl, hb1⟩; have HJ1 := Lib.hid (And.intro (hJ.out.1.below hb1) (And.intro (Kd.R_below hJ.out.2.2.1 hb1) hb1.size)); have hb1s : Hid (base ≤ w1.heap.size) := Lib.hid (by have := hb1.size; have := hJ.out.2.1; have := hI.out.2; omega); clear hb1)
                | ((with_reducible refine wpList_build1 rfl 43 98 (.tmp 59) rfl #[.string s0, .string s1] ?d1 ?d2 2 32 Tryd.underlying43 ?d3 ?d4 (by omega) (by omega) ?d5 ?_); (case d1 => rfl); (case d3 => exact infoL); (case d4 => rfl); (case d5 => rfl))
                | (at_builtin; refine R_append_keep kL (w0 := w1) (W := w1) base rfl (.tmp 50) (.tmp 60) 43 98 (.agg #[(.string ⟨#[]⟩), (.string ⟨#[]⟩)]) 32 rfl Tryd.underlying43 infoL rfl (by decide) (by omega) u7 (marksK k (n + j)) ⟨s0, s1⟩ [.string s0, .string s1] (fun _ => True) (fun _ => False) rfl rfl (QLb.k98_mkM _ _ _ _) (fun _ h => h.elim) (fun _ _ => trivial) HJ1.out.2.1 (Below.refl _ _) hb1s.out (by rw [marksK_length]; omega) ?_; intro v1 w6 hR6 hB6 hg6 hat6 hkeep6))
              have hst := BI.step HJ1.out.1 hI.out.1.gs hG HA.out HV.out.1 hVlt.out hww (by have := hI.out.2; omega) (by have := HJ1.out.2.2; have := hJ.out.2.1; omega) (by rw [← HV.out.2]; exact hv0.out) hJ.out.2.2.2 HJ1.out.2.1 (by rw [marksK_length, ← HV.out.2]; omega) hg6 hkeep6
              rw [← HM.out, ← marksK_succ] at hR6
              have hsz6 : wo.heap.size ≤ w6.heap.size := by have := hg6.size; have := HJ1.out.2.2; have := hJ.out.2.1; omega
              have how6 : ∀ b, v1.ownBlock = some b → (Value.slice Ak n ck).ownBlock = some b ∨ wo.heap.size ≤ b := fun b hb => by
                rcases hat6 with e | ⟨b', e, hle⟩
                · exact hJ.out.2.2.2 b (by rw [← e]; exact hb)
                · rw [e] at hb
                  injection hb with hb
                  have := HJ1.out.2.2
                  have := hJ.out.2.1
                  exact .inr (by omega)
              replace hst := Lib.hid (And.intro hst (And.intro hsz6 (And.intro hR6 how6)))
              clear hR6 hB6 hg6 hat6 hkeep6 hsz6 how6
              go_wp2
              go_roundw
              case rel => exact ⟨j + 1, by omega, by go_num, hst⟩
              case measure => simp [intOf]; omega
            · obtain rfl : j = 64 := by omega
              have hR7 := hJ.out.2.2.1
              obtain ⟨A7, c7, e7⟩ := Kd.R_slice hR7
              have hc7 : u7.cells = #[u7] := by rw [e7]; rfl
              have ho7 : u7.oneCell' = true := by rw [e7]; rfl
              rw [HV.out.2] at hR7
              have hwaW : wa.heap.size ≤ wr.heap.size := Nat.le_trans hI.out.2 hJ.out.2.1
              have hGl : ((G.map fun u => [u]).length + 1) * 24 ≤ 140737488355328 := by rw [List.length_map]; omega
              have H7 := Lib.hid (And.intro hR7 (And.intro hc7 (And.intro ho7 (And.intro hwaW hGl))))
              clear hR7 e7 hc7 ho7 hwaW hGl
              go_wp2_with (first
                | ((with_reducible refine wpList_buildOne rfl 31 43 (.tmp 63) rfl u7 ?o1 ?o2 (.slice none 0 0) 24 Tryd.underlying31 ?o3 ?_); (case o1 => rfl); (case o2 => exact H7.out.2.1); (case o3 => exact infoLs))
                | (at_builtin; refine Kd.R_append (Kd.raw 1) (w0 := wr) (W := wr) wa.heap.size rfl (.tmp 62) (.tmp 64) 31 43 (.slice none 0 0) 24 rfl Tryd.underlying31 infoLs rfl (by decide) (by omega) u5 (G.map fun u => [u]) [u7] [u7] (fun _ => True) (fun _ => False) rfl rfl ⟨rfl, rfl, fun q hq => by rw [List.mem_singleton.1 hq]; exact H7.out.2.2.1⟩ (fun _ h => h.elim) (fun _ _ => trivial) hJ.out.1.row ?oB H7.out.2.2.2.1 H7.out.2.2.2.2 ?_; (case oB => exact ⟨rfl, rfl, rfl, Nat.le_refl _, fun _ _ => rfl⟩); intro v1 w6 hR6 hB6 hg6 hat6; have hnx := BI.next hJ.out.1 hG HV.out.1 hI.out.2 hJ.out.2.2.2 H7.out.1 hVlt.out H7.out.2.2.2.1 hR6 hg6 hww; replace hnx := Lib.hid (And.intro hnx (Nat.le_trans H7.out.2.2.2.1 hg6.size)); clear hR6 hB6 hg6 hat6))
              go_roundw
              case rel => exact ⟨k + 1, by omega, by go_num, G ++ [u7], by rw [List.length_append, hG]; rfl, hnx⟩
              case measure => simp [intOf]; omega
        · obtain rfl : N = k := by omega
          obtain ⟨A5, c5, e5⟩ := Kd.R_slice hI.out.1.row
          rw [List.length_map, hG] at e5
          have hrow := hI.out.1.row
          rw [e5] at hrow
          have hC5 := (Kd.R_reads' hrow).2.2
          rw [List.length_map, hG] at hC5
          have HC := Lib.hid (And.intro hC5 (And.intro hI.out.1.rd (And.intro hI.out.1.gs (And.intro hI.out.1.only (HRow.out.only hI.out.1.only)))))
          clear hrow hC5 hI
          subst e5
          rename World => wb
          go_wp2
          go_loopw [9] (fun v9 wr => ∃ k : Nat, k ≤ N ∧ v9 = .int .i64 k ∧ Hid (Below wb.heap.size wb wr)) (fun v9 _ => N - (intOf v9).toNat)
          case atStart => exact ⟨0, Nat.zero_le _, rfl, Lib.hid (Below.refl _ _)⟩
          case round =>
            obtain ⟨k, hk, rfl, hB⟩ := hrel
            by_cases hkn : k < N
            · obtain ⟨v, hv⟩ : ∃ v, V[k]? = some v := ⟨_, List.getElem?_eq_getElem (by have := HL.out.1; omega)⟩
              obtain ⟨u, hu⟩ : ∃ u, G[k]? = some u := ⟨_, List.getElem?_eq_getElem (by omega)⟩
              obtain ⟨gd, rfl⟩ := rawSome HC.out.1 hu
              obtain ⟨Ak, ck, rfl, hck, hCk⟩ := HC.out.2.1 k v hv
              have hr := HC.out.2.2.1.row k u hu
              obtain ⟨Bk, dk, rfl⟩ := Kd.R_slice hr
              have hDk := (Kd.R_reads' hr).2.2
              obtain ⟨n, hn⟩ : ∃ n, n = (LS k).length := ⟨_, rfl⟩
              have hnb : n ≤ 4398046510976 := by rw [hn]; exact HL.out.2 k hkn
              simp only [marksK_length, ← hn] at hv hu hCk hDk
              have hlk : (k : Int) < (N : Int) := by omega
              have HV := Lib.hid (And.intro hv (And.intro hu (And.intro hCk hDk)))
              clear hv hu hCk hDk hck hr hn
              go_wp2
              rename World => wo
              go_loopw [10] (fun v10 wr => ∃ i : Nat, i ≤ n + 64 ∧ v10 = .int .i64 i ∧ Hid (Below wb.heap.size wb wr)) (fun v10 _ => n + 64 - (intOf v10).toNat)
              case atStart => exact ⟨0, Nat.zero_le _, rfl, hB⟩
              case round =>
                obtain ⟨i, hi, rfl, hJ⟩ := hrel
                have HRr := Lib.hid (HC.out.2.2.2.2.only (OnlyB.of_below hJ.out))
                have HG : Hid ((Kd.raw 1).C wr (some gd) N (G.map fun u => [u])) := Lib.hid (Kd.C_below HC.out.1 hJ.out)
                have s1 := HRr.out.cells k _ HV.out.1
                have s2 := rawCell HG.out HV.out.2.1
                by_cases hin : i < n + 64
                · obtain ⟨s0, s1', hm⟩ : ∃ s0 s1, markK k i = ⟨s0, s1⟩ := ⟨_, _, rfl⟩
                  have QM := fun W => markK_calls k i W
                  rw [hm] at QM
                  replace QM := Lib.hid QM
                  have hini : (i : Int) < (n : Int) + 64 := by omega
                  have hD0 : Hid (kL.C wr Bk (n + 64) (marksK k (n + 64))) := Lib.hid (Kd.C_below HV.out.2.2.2 hJ.out)
                  have hE0 : Hid (kL.C wr Ak n (marksK k n)) := Lib.hid (Kd.C_below HV.out.2.2.1 hJ.out)
                  obtain ⟨bk, rfl⟩ : ∃ b, Bk = some b := by obtain ⟨x, e, _⟩ := hD0.out.2.2 (by omega); exact ⟨x, e⟩
                  have hp0 : Hid ((marksK k (n + 64))[i]? = some ⟨s0, s1'⟩) := Lib.hid (by rw [marksK_at _ _ _ hin, hm])
                  by_cases hl1 : i < n
                  · have hp1 : Hid ((marksK k n)[i]? = some ⟨s0, s1'⟩) := Lib.hid (by rw [marksK_at _ _ _ hl1, hm])
                    have hli : (i : Int) < (n : Int) := by omega
                    obtain ⟨ak, rfl⟩ : ∃ b, Ak = some b := by obtain ⟨x, e, _⟩ := hE0.out.2.2 (by omega); exact ⟨x, e⟩
                    clear hm
                    go_wp2_with (go_at_call 93; (with_reducible refine (QM.out _).mono ?_); rintro e w1 ⟨rfl, hb1⟩; have p1 := fun X => (HRr.out.only (OnlyB.of_below (below_alloc hb1 X))).cells k _ HV.out.1; have p2 := fun X => rawCell (Kd.C_below HG.out (below_alloc hb1 X)) HV.out.2.1; have q0 := fun X => (labAt (Kd.C_below hD0.out (below_alloc hb1 X)) hp0.out).1; have q1 := fun X => (labAt (Kd.C_below hD0.out (below_alloc hb1 X)) hp0.out).2; have r0 := fun X => (labAt (Kd.C_below hE0.out (below_alloc hb1 X)) hp1.out).1; have r1 := fun X => (labAt (Kd.C_below hE0.out (below_alloc hb1 X)) hp1.out).2)
                    go_quiet (fail)
                    go_wp2
                    go_roundw
                    case rel => exact ⟨i + 1, by omega, by go_num, Lib.hid (hJ.out.trans ((pw_below_drewN (below_alloc hb1 _) _).mono hJ.out.size))⟩
                    case measure => simp [intOf]; omega
                  · have hd : decide ((i : Int) < (n : Int)) = false := decide_eq_false (by omega)
                    clear hm
                    go_wp2_with (go_at_call 93; (with_reducible refine (QM.out _).mono ?_); rintro e w1 ⟨rfl, hb1⟩; have p1 := fun X => (HRr.out.only (OnlyB.of_below (below_alloc hb1 X))).cells k _ HV.out.1; have p2 := fun X => rawCell (Kd.C_below HG.out (below_alloc hb1 X)) HV.out.2.1; have q0 := fun X => (labAt (Kd.C_below hD0.out (below_alloc hb1 X)) hp0.out).1; have q1 := fun X => (labAt (Kd.C_below hD0.out (below_alloc hb1 X)) hp0.out).2)
                    go_quiet (fail)
                    go_wp2
                    go_roundw
                    case rel => exact ⟨i + 1, by omega, by go_num, Lib.hid (hJ.out.trans ((pw_below_drewN (below_alloc hb1 _) _).mono hJ.out.size))⟩
                    case measure => simp [intOf]; omega
                · obtain rfl : i = n + 64 := by omega
                  go_wp2
                  go_roundw
                  case rel => exact ⟨k + 1, by omega, by go_num, hJ⟩
                  case measure => simp [intOf]; omega
            · obtain rfl : N = k := by omega
              go_wp2
              go_ret
              exact ⟨rfl, HC.out.2.2.2.1.trans (OnlyB.of_below hB.out)⟩
end Go.Proofs.YtoepbjgldmgaoaaDoor

/- A Book: lists that it was handed, kept in rows. -/
namespace Go.Proofs.YtoepbjgldmgaoaaDoor
open Go.RowKit Go.Proofs.YtoepbjgldmgaoaaDoorW.PrintWords Go.Proofs.YtoepbjgldmgaoaaDoorW.PrintLast
def nilV : Value := .slice none 0 0
def bookC (v5 v10 : Value) : Array Value := #[nilV, nilV, nilV, nilV, nilV, v5, nilV, nilV, nilV, nilV, v10, nilV]
structure BookS (w : World) (base b : Nat) (VL VO : List Value) (v5 v10 : Value) : Prop where
  heap : w.heap[b]? = some (.cells (bookC v5 v10) 39 (0, 0))
  old : base ≤ b
  labs : (Kd.raw 1).R 43 w base (fun _ => True) v5 (VL.map fun u => [u])
  objs : (Kd.raw 1).R 22 w base (fun _ => True) v10 (VO.map fun u => [u])
theorem grown_one {w w1 : World} {b : Nat} (hb : Below 0 w w1) (hk : ∀ k, k ≠ b → w1.heap[k]? = w.heap[k]?) : w.grownBy w1 (some b) := ⟨hb.os, hb.tape, hb.output, hb.size, fun k _ hn => hk k (fun e => hn (by rw [e]))⟩
theorem BookS.stored {w w1 w2 : World} {base b : Nat} {VL VO : List Value} {v5 v5' v10 u : Value} (h : BookS w base b VL VO v5 v10) (hg : w.grownBy w1 v5.ownBlock) (hR : (Kd.raw 1).R 43 w1 base (fun _ => True) v5' (VL.map (fun u => [u]) ++ [[u]]))
    (hh : w2.heap[b]? = some (.cells ((bookC v5 v10).setIfInBounds 5 v5') 39 (0, 0))) (hg2 : w1.grownBy w2 (some b)) : BookS w2 base b (VL ++ [u]) VO v5' v10 := by
  have hty := Kd.R_typed h.labs
  have hne : some b ≠ v5.ownBlock := fun e => by
    obtain ⟨c, hc⟩ := hty b e.symm
    rw [h.heap] at hc
    injection hc with hc
    injection hc with _ hc
    exact absurd hc (by decide)
  have hb1 : w1.heap[b]? = some (.cells (bookC v5 v10) 39 (0, 0)) := (hg.block b (blkLt h.heap) hne).trans h.heap
  have ht1 : ∀ k, (Value.slice (some ⟨b, 0, none⟩) 0 0).ownBlock = some k → ∃ cells, w1.heap[k]? = some (Obj.cells cells 39) := fun k hk => by
    obtain rfl : b = k := by simpa [Value.ownBlock] using hk
    exact ⟨_, hb1⟩
  refine ⟨hh, h.old, ?_, ?_⟩
  · rw [List.map_append]
    exact Kd.R_over' (v := .slice (some ⟨b, 0, none⟩) 0 0) hR ht1 (fun q hq => by
      rcases List.mem_cons.1 hq with rfl | hq
      · decide
      · cases hq) hg2
  · exact Kd.R_over' (v := .slice (some ⟨b, 0, none⟩) 0 0) (Kd.R_over' h.objs hty (fun q hq => by
      rcases List.mem_cons.1 hq with rfl | hq
      · decide
      · cases hq) hg) ht1 (fun q hq => by
      rcases List.mem_cons.1 hq with rfl | hq
      · decide
      · cases hq) hg2
theorem BookS.kept {w w1 : World} {base b : Nat} {VL VO : List Value} {v5 v10 : Value} (h : BookS w base b VL VO v5 v10) (hg : w.grownBy w1 v5.ownBlock) : w1.heap[b]? = some (.cells (bookC v5 v10) 39 (0, 0)) := by
  have hne : some b ≠ v5.ownBlock := fun e => by
    obtain ⟨c, hc⟩ := Kd.R_typed h.labs b e.symm
    rw [h.heap] at hc
    injection hc with hc
    injection hc with _ hc
    exact absurd hc (by decide)
  exact (hg.block b (blkLt h.heap) hne).trans h.heap
theorem BookS.below {w w1 : World} {base b : Nat} {VL VO : List Value} {v5 v10 : Value} (h : BookS w base b VL VO v5 v10) (hb : Below w.heap.size w w1) : BookS w1 base b VL VO v5 v10 :=
  ⟨(hb.block b (blkLt h.heap)).trans h.heap, h.old, Kd.R_below h.labs hb, Kd.R_below h.objs hb⟩
set_option maxHeartbeats 1600000 in
set_option maxRecDepth 100000 in
theorem bookLabels_calls (b base : Nat) (u v5 v10 : Value) (hu : u.cells = #[u]) (hu1 : u.oneCell' = true) (w : World) (VL VO : List Value) (h : BookS w base b VL VO v5 v10) (hn : (VL.length + 1) * 24 ≤ 140737488355328) (hbase : base ≤ w.heap.size) :
    Calls Tryd.prog 87 #[.pointer (some ⟨b, 0, none⟩), u] w fun e w' => e = .returned undef ∧ (∃ v5', BookS w' base b (VL ++ [u]) VO v5' v10) ∧ Below base w w' ∧ ∀ k, k < w.heap.size → k ≠ b → some k ≠ v5.ownBlock → w'.heap[k]? = w.heap[k]? := by
  have hc : w.cell? ⟨b, 5, none⟩ = some v5 := by rw [cell_of_row w b 5 _ _ _ h.heap]; rfl
  have H := Lib.hid h
  have HU := Lib.hid (And.intro hu (And.intro hu1 (And.intro hbase (show ((VL.map fun u => [u]).length + 1) * 24 ≤ 140737488355328 by rw [List.length_map]; exact hn))))
  clear h hu hu1
  go_enter Tryd.func87, Tryd.ntmps87
  go_wp2_with (first
    | ((with_reducible refine wpList_buildOne rfl 31 43 (.tmp 9) rfl u ?o1 ?o2 (.slice none 0 0) 24 Tryd.underlying31 ?o3 ?_); (case o1 => rfl); (case o2 => exact HU.out.1); (case o3 => exact infoLs))
    | (at_builtin; refine Kd.R_append (Kd.raw 1) (w0 := w) (W := w) base rfl (.tmp 8) (.tmp 10) 31 43 (.slice none 0 0) 24 rfl Tryd.underlying31 infoLs rfl (by decide) (by omega) v5 (VL.map fun u => [u]) [u] [u] (fun _ => True) (fun _ => False) rfl rfl ⟨rfl, rfl, fun q hq => by rw [List.mem_singleton.1 hq]; exact HU.out.2.1⟩ (fun _ h => h.elim) (fun _ _ => trivial) H.out.labs (Below.refl _ _) HU.out.2.2.1 HU.out.2.2.2 ?_; intro v1 w6 hR6 hB6 hg6 hat6; obtain ⟨A6, c6, e6⟩ := Kd.R_slice hR6; have hc6 : v1.cells = #[v1] := (by subst e6; rfl); have ho6 : v1.oneCell' = true := (by subst e6; rfl); have HA6 := Lib.hid (And.intro hc6 (And.intro ho6 (And.intro hR6 (And.intro hB6 hg6)))); clear hR6 hB6 hg6 hat6 e6 hc6 ho6)
    | ((with_reducible refine wpList_store1 rfl 31 (.tmp 13) (.tmp 11) rfl b 5 39 (bookC v5 v10) v1 ?q1 ?q2 ?q3 ?q4 ?q5 ?q6 ?q7 ?_); (case q1 => rfl); (case q2 => rfl); (case q3 => exact HA6.out.1); (case q4 => exact BookS.kept H.out HA6.out.2.2.2.2); (case q5 => exact (show 5 < 12 by decide)); (case q6 => kernel_rfl); (case q7 => exact HA6.out.2.1); intro w7 hh7 hk7 hb7 hz7; have hg7 : w6.grownBy w7 (some b) := grown_one (hb7 0 w6 (Below.refl _ _) (Nat.zero_le _)) hk7; have hS := BookS.stored H.out HA6.out.2.2.2.2 HA6.out.2.2.1 hh7 hg7; have hB7 := hb7 base w HA6.out.2.2.2.1 H.out.old; have hK7 : ∀ k, k < w.heap.size → k ≠ b → some k ≠ v5.ownBlock → w7.heap[k]? = w.heap[k]? := (fun k h1 h2 h3 => (hk7 k h2).trans (HA6.out.2.2.2.2.block k h1 h3))))
  go_end0
  exact ⟨rfl, ⟨_, hS⟩, hB7, hK7⟩
end Go.Proofs.YtoepbjgldmgaoaaDoor

/- Book.Object walked. -/
namespace Go.Proofs.YtoepbjgldmgaoaaDoor
open Go.RowKit Go.Proofs.YtoepbjgldmgaoaaDoorW.PrintWords Go.Proofs.YtoepbjgldmgaoaaDoorW.PrintLast
set_option maxHeartbeats 1600000 in
set_option maxRecDepth 100000 in
theorem bookObject_calls (b base : Nat) (o : Ob) (u4 u27 v5 v10 : Value) (h4 : u4.cells = #[u4] ∧ u4.oneCell' = true) (h27 : u27.cells = #[u27] ∧ u27.oneCell' = true) (w : World) (VL VO : List Value) (h : BookS w base b VL VO v5 v10) (hn : (VL.length + 2) * 24 ≤ 140737488355328) (hbase : base ≤ w.heap.size) :
    Calls Tryd.prog 51 #[.pointer (some ⟨b, 0, none⟩), .agg (o.cells u4 u27)] w fun e w' => e = .returned undef ∧ (∃ v5', BookS w' base b (VL ++ [u4] ++ [u27]) VO v5' v10) ∧ Below base w w' := by
  have H := Lib.hid h
  have HU := Lib.hid (And.intro h4 (And.intro h27 hbase))
  clear h h4 h27
  have HB1 := Lib.hid (H.out.below (w1 := w.alloc (.cells (o.cells u4 u27) 48)) (below_alloc (Below.refl _ _) _))
  go_enter Tryd.func51, Tryd.ntmps51
  go_wp2_with (first
    | ((with_reducible refine wpList_boxTo rfl 48 (.tmp 1) rfl _ ?b1 w.heap.size ?b2 (o.cells u4 u27) ?b3 ?_); (case b1 => rfl); (case b2 => rfl); (case b3 => rfl))
    | ((with_reducible refine wpList_load1_w 43 (.tmp 5) rfl ⟨w.heap.size, 4, none⟩ ?c1 ?c2 u4 _ ?c3 Tryd.underlying43 rfl ?_); (case c1 => rfl); (case c2 => rfl); (case c3 => rw [cell_of_row _ _ 4 _ _ _ (heap_alloc_new w _)]; rfl))
    | (go_at_call 87; (with_reducible refine (bookLabels_calls b base u4 v5 v10 HU.out.1.1 HU.out.1.2 _ VL VO HB1.out (by omega) (by have := HU.out.2.2; simp; omega)).mono ?_); rintro e w1 ⟨rfl, ⟨v5', hS1⟩, hb1, hk1⟩; have hx1 : w1.heap[w.heap.size]? = some (.cells (o.cells u4 u27) 48 (0, 0)) := (hk1 _ (by simp) (fun e => by have := blkLt H.out.heap; omega) (fun e => by have := Kd.R_lt H.out.labs _ e.symm; omega)).trans (heap_alloc_new w _); have HS1 := Lib.hid (And.intro hS1 (And.intro hb1 hx1)); clear hS1 hb1 hk1 hx1)
    | ((with_reducible refine wpList_load1_w 43 (.tmp 9) rfl ⟨w.heap.size, 27, none⟩ ?f1 ?f2 u27 _ ?f3 Tryd.underlying43 rfl ?_); (case f1 => rfl); (case f2 => rfl); (case f3 => rw [cell_of_row _ _ 27 _ _ _ HS1.out.2.2]; rfl))
    | (go_at_call 87; (with_reducible refine (bookLabels_calls b base u27 v5' v10 HU.out.2.1.1 HU.out.2.1.2 _ (VL ++ [u4]) VO HS1.out.1 (by rw [List.length_append, List.length_singleton]; omega) (by have := HU.out.2.2; have := HS1.out.2.1.size; simp at this; omega)).mono ?_); rintro e w2 ⟨rfl, ⟨v5'', hS2⟩, hb2, hk2⟩))
  go_end0
  exact ⟨rfl, ⟨_, hS2⟩, ((Below.refl base w).alloc HU.out.2.2 _ |>.trans HS1.out.2.1).trans hb2⟩
end Go.Proofs.YtoepbjgldmgaoaaDoor

/- Book.Objects walked: the list itself, and the lists within. -/
namespace Go.Proofs.YtoepbjgldmgaoaaDoor
open Go.RowKit Go.Proofs.YtoepbjgldmgaoaaDoorW.PrintWords Go.Proofs.YtoepbjgldmgaoaaDoorW.PrintLast
theorem infoOs : (Tryd.prog.info? 22).map (fun i => (i.zero, i.size, i.bytes)) = some (some (.slice none 0 0), 1, 24) := by kernel_rfl
theorem BookS.ne10 {w : World} {base b : Nat} {VL VO : List Value} {v5 v10 : Value} (h : BookS w base b VL VO v5 v10) : some b ≠ v10.ownBlock := fun e => by
  obtain ⟨c, hc⟩ := Kd.R_typed h.objs b e.symm
  rw [h.heap] at hc
  injection hc with hc
  injection hc with _ hc
  exact absurd hc (by decide)
theorem BookS.kept10 {w w1 : World} {base b : Nat} {VL VO : List Value} {v5 v10 : Value} (h : BookS w base b VL VO v5 v10) (hg : w.grownBy w1 v10.ownBlock) : w1.heap[b]? = some (.cells (bookC v5 v10) 39 (0, 0)) :=
  (hg.block b (blkLt h.heap) h.ne10).trans h.heap
theorem BookS.stored10 {w w1 w2 : World} {base b : Nat} {VL VO : List Value} {v5 v10 v10' u : Value} (h : BookS w base b VL VO v5 v10) (hg : w.grownBy w1 v10.ownBlock) (hR : (Kd.raw 1).R 22 w1 base (fun _ => True) v10' (VO.map (fun u => [u]) ++ [[u]]))
    (hh : w2.heap[b]? = some (.cells ((bookC v5 v10).setIfInBounds 10 v10') 39 (0, 0))) (hg2 : w1.grownBy w2 (some b)) : BookS w2 base b VL (VO ++ [u]) v5 v10' := by
  have hty := Kd.R_typed h.objs
  have hb1 := h.kept10 hg
  have ht1 : ∀ k, (Value.slice (some ⟨b, 0, none⟩) 0 0).ownBlock = some k → ∃ cells, w1.heap[k]? = some (Obj.cells cells 39) := fun k hk => by
    obtain rfl : b = k := by simpa [Value.ownBlock] using hk
    exact ⟨_, hb1⟩
  refine ⟨hh, h.old, ?_, ?_⟩
  · exact Kd.R_over' (v := .slice (some ⟨b, 0, none⟩) 0 0) (Kd.R_over' h.labs hty (fun q hq => by
      rcases List.mem_cons.1 hq with rfl | hq
      · decide
      · cases hq) hg) ht1 (fun q hq => by
      rcases List.mem_cons.1 hq with rfl | hq
      · decide
      · cases hq) hg2
  · rw [List.map_append]
    exact Kd.R_over' (v := .slice (some ⟨b, 0, none⟩) 0 0) hR ht1 (fun q hq => by
      rcases List.mem_cons.1 hq with rfl | hq
      · decide
      · cases hq) hg2
def labsOf (T : List (Ob × Value × Value)) : List Value := T.flatMap fun t => [t.2.1, t.2.2]
theorem labsOf_take {T : List (Ob × Value × Value)} {k : Nat} {o : Ob} {u4 u27 : Value} (h : T[k]? = some (o, u4, u27)) : labsOf (T.take (k + 1)) = labsOf (T.take k) ++ [u4] ++ [u27] := by
  have hk := (List.getElem?_eq_some_iff.1 h).1
  have e := (List.getElem?_eq_some_iff.1 h).2
  rw [List.take_succ_eq_append_getElem hk, e]
  simp [labsOf]
theorem labsOf_len (T : List (Ob × Value × Value)) : (labsOf T).length = 2 * T.length := by
  induction T with
  | nil => rfl
  | cons t r ih =>
    have e : labsOf (t :: r) = [t.2.1, t.2.2] ++ labsOf r := rfl
    have e2 : (t :: r).length = r.length + 1 := rfl
    have e3 : [t.2.1, t.2.2].length = 2 := rfl
    rw [e, List.length_append, ih, e2, e3]
    omega
theorem book_len {T : List (Ob × Value × Value)} {VL : List Value} {k n : Nat} (hT : T.length = n) (h : (VL.length + 2 * n + 2) * 24 ≤ 140737488355328) : ((VL ++ labsOf (T.take k)).length + 2) * 24 ≤ 140737488355328 := by
  rw [List.length_append, labsOf_len, List.length_take]
  have h1 : min k T.length ≤ n := by rw [← hT]; exact Nat.min_le_right _ _
  exact Nat.le_trans (Nat.mul_le_mul_right 24 (Nat.add_le_add_right (Nat.add_le_add_left (Nat.mul_le_mul_left 2 h1) _) 2)) h
structure TabAt (w : World) (A : Option Addr) (T : List (Ob × Value × Value)) : Prop where
  at_ : ∀ (i : Nat) o u4 u27, T[i]? = some (o, u4, u27) → ∃ ad, A = some ad ∧ ∀ (j : Nat) (u : Value), (o.cells u4 u27)[j]? = some u → w.cell? (ad.add (i * 32 + j)) = some u
  one : ∀ t ∈ T, (t.2.1.cells = #[t.2.1] ∧ t.2.1.oneCell' = true) ∧ (t.2.2.cells = #[t.2.2] ∧ t.2.2.oneCell' = true)
theorem TabAt.below {w w1 : World} {A : Option Addr} {T : List (Ob × Value × Value)} {base : Nat} (h : TabAt w A T) (hA : ∀ ad, A = some ad → ad.block < base) (hb : Below base w w1) : TabAt w1 A T :=
  ⟨fun i o u4 u27 hi => by
    obtain ⟨ad, e, hc⟩ := h.at_ i o u4 u27 hi
    refine ⟨ad, e, fun j u hu => ?_⟩
    exact (cell_same (w := w) (w' := w1) (a := ad.add (i * 32 + j)) (by rw [add_block]; exact hb.block _ (hA ad e))).trans (hc j u hu), h.one⟩
set_option maxHeartbeats 1600000 in
set_option maxRecDepth 100000 in
theorem bookObjects_calls (b base : Nat) (A : Option Addr) (n c : Nat) (T : List (Ob × Value × Value)) (v5 v10 : Value) (w : World) (VL VO : List Value) (hTn : T.length = n) (hT : TabAt w A T) (hA : ∀ ad, A = some ad → ad.block < base) (h : BookS w base b VL VO v5 v10)
    (hn : (VL.length + 2 * n + 2) * 24 ≤ 140737488355328) (hm : (VO.length + 1) * 24 ≤ 140737488355328) (hbase : base ≤ w.heap.size) :
    Calls Tryd.prog 16 #[.pointer (some ⟨b, 0, none⟩), .slice A n c] w fun e w' => e = .returned undef ∧ (∃ v5' v10', BookS w' base b (VL ++ labsOf T) (VO ++ [.slice A n c]) v5' v10') ∧ Below base w w' := by
  have hc : w.cell? ⟨b, 10, none⟩ = some v10 := by rw [cell_of_row w b 10 _ _ _ h.heap]; rfl
  have H := Lib.hid h
  have HT := Lib.hid (And.intro hTn (And.intro hT (And.intro hA (And.intro hbase (show ((VO.map fun u => [u]).length + 1) * 24 ≤ 140737488355328 by rw [List.length_map]; exact hm)))))
  obtain ⟨v, hv⟩ : ∃ v, v = Value.slice A n c := ⟨_, rfl⟩
  have HV := Lib.hid hv
  clear h hTn hT hA hv
  go_enter Tryd.func16, Tryd.ntmps16
  go_wp2_with (first
    | ((with_reducible refine wpList_buildOne rfl 36 22 (.tmp 10) rfl (.slice A n c) ?o1 ?o2 (.slice none 0 0) 24 Tryd.underlying36 ?o3 ?_); (case o1 => rfl); (case o2 => rfl); (case o3 => exact infoOs))
    | (at_builtin; refine Kd.R_append (Kd.raw 1) (w0 := w) (W := w) base rfl (.tmp 9) (.tmp 11) 36 22 (.slice none 0 0) 24 rfl Tryd.underlying36 infoOs rfl (by decide) (by omega) v10 (VO.map fun u => [u]) [.slice A n c] [.slice A n c] (fun _ => True) (fun _ => False) rfl rfl ⟨rfl, rfl, fun q hq => by rw [List.mem_singleton.1 hq]; rfl⟩ (fun _ h => h.elim) (fun _ _ => trivial) H.out.objs (Below.refl _ _) HT.out.2.2.2.1 HT.out.2.2.2.2 ?_; intro v1 w6 hR6 hB6 hg6 hat6; obtain ⟨A6, c6, e6⟩ := Kd.R_slice hR6; have hc6 : v1.cells = #[v1] := (by subst e6; rfl); have ho6 : v1.oneCell' = true := (by subst e6; rfl); have HA6 := Lib.hid (And.intro hc6 (And.intro ho6 (And.intro hR6 (And.intro hB6 hg6)))); clear hR6 hB6 hg6 hat6 e6 hc6 ho6)
    | ((with_reducible refine wpList_store1 rfl 36 (.tmp 14) (.tmp 12) rfl b 10 39 (bookC v5 v10) v1 ?q1 ?q2 ?q3 ?q4 ?q5 ?q6 ?q7 ?_); (case q1 => rfl); (case q2 => rfl); (case q3 => exact HA6.out.1); (case q4 => exact BookS.kept10 H.out HA6.out.2.2.2.2); (case q5 => exact (show 10 < 12 by decide)); (case q6 => kernel_rfl); (case q7 => exact HA6.out.2.1); intro w7 hh7 hk7 hb7 hz7; have hg7 : w6.grownBy w7 (some b) := grown_one (hb7 0 w6 (Below.refl _ _) (Nat.zero_le _)) hk7; have hS := BookS.stored10 H.out HA6.out.2.2.2.2 HA6.out.2.2.1 hh7 hg7; have hB7 := hb7 base w HA6.out.2.2.2.1 H.out.old; replace HA7 := Lib.hid (And.intro hS hB7); clear hS hB7 hg7 hb7 hz7))
  go_loopw [4] (fun v4 wr => ∃ k : Nat, k ≤ n ∧ v4 = .int .i64 k ∧ ∃ v5', Hid (BookS wr base b (VL ++ labsOf (T.take k)) (VO ++ [.slice A n c]) v5' v1 ∧ Below base w wr)) (fun v4 _ => n - (intOf v4).toNat)
  case atStart => exact ⟨0, Nat.zero_le _, rfl, v5, Lib.hid ⟨by simpa [labsOf] using HA7.out.1, HA7.out.2⟩⟩
  case round =>
    obtain ⟨k, hk, rfl, v5', hI⟩ := hrel
    by_cases hkn : k < n
    · obtain ⟨⟨o, u4, u27⟩, ht⟩ : ∃ t, T[k]? = some t := ⟨_, List.getElem?_eq_getElem (by have := HT.out.1; omega)⟩
      obtain ⟨ad, rfl, hcells⟩ := (HT.out.2.1.below HT.out.2.2.1 hI.out.2).at_ k o u4 u27 ht
      have hone := HT.out.2.1.one _ (List.mem_of_getElem? ht)
      have hlen : ((VL ++ labsOf (T.take k)).length + 2) * 24 ≤ 140737488355328 := book_len HT.out.1 hn
      have hszr : base ≤ wr.heap.size := Nat.le_trans HT.out.2.2.2.1 hI.out.2.size
      have hlk : (k : Int) < (n : Int) := by omega
      have HC := Lib.hid (And.intro hcells (And.intro hone (And.intro hlen (And.intro hszr ht))))
      clear hcells hone hlen hszr ht
      go_wp2_with (first
        | ((with_reducible refine wpList_load_any_w ?g0 48 (.tmp 24) rfl (ad.add (k * 32)) ?g1 (o.cells u4 u27) _ ?g2 Tryd.underlying48 rfl ?g3 ?_); (case g0 => rfl); (case g1 => rfl); (case g2 => intro j u hu; rw [add_add]; exact HC.out.1 j u hu); (case g3 => exact infoO1))
        | (go_at_call 51; (with_reducible refine (bookObject_calls b base o u4 u27 v5' v1 HC.out.2.1.1 HC.out.2.1.2 _ (VL ++ labsOf (T.take k)) (VO ++ [.slice (some ad) n c]) hI.out.1 HC.out.2.2.1 HC.out.2.2.2.1).mono ?_); rintro e w2 ⟨rfl, ⟨v5'', hS2⟩, hb2⟩; rw [List.append_assoc, List.append_assoc, ← List.append_assoc (labsOf (T.take k)), ← labsOf_take HC.out.2.2.2.2] at hS2; have HS2 := Lib.hid (And.intro hS2 (hI.out.2.trans hb2)); clear hS2 hb2))
      go_roundw
      case rel => exact ⟨k + 1, by omega, by go_num, v5'', HS2⟩
      case measure => simp [intOf]; omega
    · obtain rfl : n = k := by omega
      have hfin := hI.out
      rw [List.take_of_length_le (Nat.le_of_eq HT.out.1)] at hfin
      replace hfin := Lib.hid hfin
      go_wp2
      go_end0
      exact ⟨rfl, ⟨_, _, hfin.out.1⟩, hfin.out.2⟩
end Go.Proofs.YtoepbjgldmgaoaaDoor

/- apartObjects, plainly: lists of objects, each of its own block; two cells of each object are marked. -/
namespace Go.Proofs.YtoepbjgldmgaoaaDoor
open Go.RowKit Go.Proofs.YtoepbjgldmgaoaaDoorW.PrintWords Go.Proofs.YtoepbjgldmgaoaaDoorW.PrintLast
def mkB (n i : Nat) : Int := if i < n then (i : Int) else 1000 + ((i : Int) - (n : Int))
def mF : Nat := 18446744073709551616
inductive OV (w : World) (k m : Nat) : Value → Prop
  | nil : OV w k m (.slice none 0 0)
  | one (b n c : Nat) (cur : Array Value) (hn : n ≤ c) (hx : c ≤ 9223372036854775807) (hh : w.heap[b]? = some (.cells cur 48 (0, 0))) (hs : c * 32 ≤ cur.size)
      (hm : ∀ i, i < m → i < c → i < n + 64 → cur[i * 32 + 2]? = some (.int .i64 (-7 - (k : Int))) ∧ cur[i * 32 + 3]? = some (.int .i64 (mkB n i))) : OV w k m (.slice (some ⟨b, 0, none⟩) n c)
theorem OV.fin {w : World} {k m m' : Nat} {b n c : Nat} (h : OV w k m (.slice (some ⟨b, 0, none⟩) n c)) (hl : c ≤ m ∨ n + 64 ≤ m) : OV w k m' (.slice (some ⟨b, 0, none⟩) n c) := by
  cases h with
  | one _ _ _ cur hn hx hh hs hm => exact .one b n c cur hn hx hh hs (fun i _ hc h6 => hm i (by omega) hc h6)
theorem OV.keep {w w1 : World} {k m : Nat} {v : Value} (h : OV w k m v) (hb : ∀ b, v.ownBlock = some b → b < w.heap.size → w1.heap[b]? = w.heap[b]?) : OV w1 k m v := by
  cases h with
  | nil => exact .nil
  | one b n c cur hn hx hh hs hm => exact .one b n c cur hn hx ((hb b rfl (blkLt hh)).trans hh) hs hm
theorem OV.below {w w1 : World} {k m : Nat} {v : Value} (h : OV w k m v) (hb : Below w.heap.size w w1) : OV w1 k m v := h.keep fun b _ hl => hb.block b hl
theorem OV.open_ {w : World} {k m b n c : Nat} (h : OV w k m (.slice (some ⟨b, 0, none⟩) n c)) : ∃ cur : Array Value, n ≤ c ∧ c ≤ 9223372036854775807 ∧ w.heap[b]? = some (.cells cur 48 (0, 0)) ∧ c * 32 ≤ cur.size ∧
    ∀ i, i < m → i < c → i < n + 64 → cur[i * 32 + 2]? = some (.int .i64 (-7 - (k : Int))) ∧ cur[i * 32 + 3]? = some (.int .i64 (mkB n i)) := by
  cases h with
  | one _ _ _ cur hn hx hh hs hm => exact ⟨cur, hn, hx, hh, hs, hm⟩
theorem OV.step {w w1 : World} {k i : Nat} {b n c : Nat} (h : OV w k i (.slice (some ⟨b, 0, none⟩) n c)) (hi : i < c) {cur : Array Value} (hc : w.heap[b]? = some (.cells cur 48 (0, 0)))
    (h1 : w1.heap[b]? = some (.cells ((cur.setIfInBounds (i * 32 + 2) (.int .i64 (-7 - (k : Int)))).setIfInBounds (i * 32 + 3) (.int .i64 (mkB n i))) 48 (0, 0))) : OV w1 k (i + 1) (.slice (some ⟨b, 0, none⟩) n c) := by
  cases h with
  | one _ _ _ cur' hn hx hh hs hm =>
    rw [hc] at hh
    injection hh with hh
    injection hh with hh
    subst hh
    refine .one b n c _ hn hx h1 (by simpa using hs) (fun j hj hjc hj6 => ?_)
    have hsz : j * 32 + 3 < cur.size := by omega
    by_cases e : j = i
    · subst e
      refine ⟨?_, ?_⟩
      · rw [Array.getElem?_setIfInBounds_ne (by omega), Array.getElem?_setIfInBounds_self_of_lt (by omega)]
      · rw [Array.getElem?_setIfInBounds_self_of_lt (by simpa using hsz)]
    · obtain ⟨p, q⟩ := hm j (by omega) hjc hj6
      refine ⟨?_, ?_⟩
      · rw [Array.getElem?_setIfInBounds_ne (by omega), Array.getElem?_setIfInBounds_ne (by omega)]
        exact p
      · rw [Array.getElem?_setIfInBounds_ne (by omega), Array.getElem?_setIfInBounds_ne (by omega)]
        exact q
structure OVs (w : World) (V : List Value) (m : Nat → Nat) : Prop where
  row : ∀ k v, V[k]? = some v → OV w k (m k) v
theorem OVs.below {w w1 : World} {V : List Value} {m : Nat → Nat} (h : OVs w V m) (hb : Below w.heap.size w w1) : OVs w1 V m := ⟨fun k v hv => (h.row k v hv).below hb⟩
theorem OVs.congr {w : World} {V : List Value} {m m' : Nat → Nat} (h : OVs w V m) (e : ∀ k, m k = m' k) : OVs w V m' := ⟨fun k v hv => by rw [← e k]; exact h.row k v hv⟩
theorem OVs.turn {w w1 : World} {V : List Value} {k m0 i : Nat} (h : OVs w V (fun j => if j < k then mF else if j = k then m0 else 0)) (ha : ApartV V) {v : Value} (hk : V[k]? = some v) (hb : ∀ b, v.ownBlock ≠ some b → w1.heap[b]? = w.heap[b]?) (hR : OV w1 k i v) :
    OVs w1 V (fun j => if j < k then mF else if j = k then i else 0) := by
  refine ⟨fun j u hu => ?_⟩
  by_cases hj : j = k
  · subst hj
    rw [hk] at hu
    obtain rfl := Option.some.inj hu
    simpa using hR
  · have h0 := (h.row j u hu).keep (w1 := w1) fun b hb1 hl => hb b (fun e => ha j k u v hj hu hk b hb1 e)
    simpa only [hj, if_false] using h0
theorem OVs.start {w : World} {V : List Value} {k : Nat} (h : OVs w V (fun j => if j < k then mF else 0)) : OVs w V (fun j => if j < k then mF else if j = k then 0 else 0) := h.congr fun j => by simp
theorem OVs.next {w : World} {V : List Value} {k m0 : Nat} (h : OVs w V (fun j => if j < k then mF else if j = k then m0 else 0)) {v : Value} (hk : V[k]? = some v) (hR : OV w k mF v) : OVs w V (fun j => if j < k + 1 then mF else 0) := by
  refine ⟨fun j u hu => ?_⟩
  by_cases hj : j = k
  · subst hj
    rw [hk] at hu
    obtain rfl := Option.some.inj hu
    simpa using hR
  · have h0 := h.row j u hu
    have e : (j < k + 1) = (j < k) := by simp; omega
    simpa only [e, hj, if_false] using h0
theorem OnlyB.stored {G : Nat → Prop} {w w1 : World} {b : Nat} (hk : ∀ k, k ≠ b → w1.heap[k]? = w.heap[k]?) (hb : ∀ B w0, Below B w0 w → B ≤ b → Below B w0 w1) (hG : G b) : OnlyB G w w1 := by
  have h0 := hb 0 w (Below.refl _ _) (Nat.zero_le _)
  exact ⟨h0.os, h0.tape, h0.output, h0.size, fun k _ hn => hk k (fun e => hn (e ▸ hG))⟩
theorem cut_spare (b n c : Nat) (hn : n ≤ c) :
    ∃ A' : Option Addr, (∀ W : World, (Instr.slice 22 (.slice (some ⟨b, 0, none⟩) n c) (some (.int .i64 (n : Int))) (some (.int .i64 (c : Int))) none).run Tryd.prog W = .ok (.slice A' (c - n) (c - n)) W) ∧ (0 < c - n → A' = some ⟨b, n * 32, none⟩) := by
  have ht := Tryd.underlying22
  obtain ⟨i0, hi, hzz⟩ := Option.map_eq_some_iff.1 infoO
  simp only [Prod.mk.injEq] at hzz
  obtain ⟨_, hz1, _⟩ := hzz
  refine ⟨if c = n then some ⟨b, 0, none⟩ else some ⟨b, n * 32, none⟩, fun W => ?_, fun h => by rw [if_neg (by omega)]⟩
  have hel : Tryd.prog.elem 22 = 48 := by simp [Program.elem, ht]
  have hu : Tryd.prog.underlying 22 = some (.slice (Tryd.prog.elem 22)) := by rw [hel]; exact ht
  rw [run_slice_lh W 22 (some ⟨b, 0, none⟩) n c hu .i64 .i64 (n : Int) (c : Int) (Int.natCast_nonneg _) (by omega) (by omega), hel]
  simp [sizeOf, typeInfo, hi, hz1, sliced, Result.andThen, add_at]
end Go.Proofs.YtoepbjgldmgaoaaDoor

/- apartObjects walked: lists of objects, each of its own block, are marked, their spare room too, and hold the marks. -/
namespace Go.Proofs.YtoepbjgldmgaoaaDoor
open Go.RowKit Go.Proofs.YtoepbjgldmgaoaaDoorW.PrintWords Go.Proofs.YtoepbjgldmgaoaaDoorW.PrintLast
theorem zero_apartObjects (A : Option Addr) (c : Nat) (w : World) : Calls Tryd.prog 52 #[.slice A 0 c] w fun e w' => e = .returned (.bool true) ∧ w' = w := by
  go_enter Tryd.func52, Tryd.ntmps52
  go_wp2
  go_rounds 1
  go_rounds 1
  go_ret
  exact ⟨rfl, rfl⟩
set_option maxHeartbeats 4000000 in
set_option maxRecDepth 100000 in
theorem apartObjects_calls (ad : Addr) (cap N : Nat) (V : List Value) (w : World) (hVN : V.length = N) (hN : N ≤ 1000000) (hrow : RowV w ad V) (hB : OVs w V (fun _ => 0)) (ha : ApartV V) :
    Calls Tryd.prog 52 #[.slice (some ad) N cap] w fun e w' => e = .returned (.bool true) ∧ OnlyB (inV V) w w' := by
  have HRow := Lib.hid hrow
  have HBk := Lib.hid hB
  have HA := Lib.hid ha
  have HL := Lib.hid hVN
  clear hrow hB ha hVN
  go_enter Tryd.func52, Tryd.ntmps52
  go_wp2
  go_loopw [3] (fun v3 wr => ∃ k : Nat, k ≤ N ∧ v3 = .int .i64 k ∧ Hid (OVs wr V (fun j => if j < k then mF else 0) ∧ OnlyB (inV V) w wr)) (fun v3 _ => N - (intOf v3).toNat)
  case atStart => exact ⟨0, Nat.zero_le _, rfl, Lib.hid ⟨HBk.out.congr (fun k => by rw [if_neg (by omega)]), OnlyB.refl _ _⟩⟩
  case round =>
    obtain ⟨k, hk, rfl, hI⟩ := hrel
    by_cases hkn : k < N
    · obtain ⟨v, hv⟩ : ∃ v, V[k]? = some v := ⟨_, List.getElem?_eq_getElem (by have := HL.out; omega)⟩
      have hr := hI.out.1.row k v hv
      rw [if_neg (Nat.lt_irrefl k)] at hr
      have hlk : (k : Int) < (N : Int) := by omega
      have q1 := (HRow.out.only hI.out.2).cells k _ hv
      have hz7 : wrap64 (-7 - (k : Int)) = -7 - (k : Int) := by unfold wrap64; omega
      have HV := Lib.hid hv
      cases hr with
      | nil =>
        have hnx : Hid (OVs wr V (fun j => if j < k + 1 then mF else 0) ∧ OnlyB (inV V) w wr) := Lib.hid ⟨hI.out.1.start.next hv .nil, hI.out.2⟩
        clear hv
        go_wp2
        go_rounds 1
        go_rounds 1
        go_roundw
        case rel => exact ⟨k + 1, by omega, by go_num, hnx⟩
        case measure => simp [intOf]; omega
      | one b n c cur hn hx hh hs hm =>
        have HK := Lib.hid (And.intro hn hx)
        clear hh hs hm hv cur
        have hst := Lib.hid (And.intro hI.out.1.start hI.out.2)
        go_wp2
        rename World => wo
        go_loopw [4] (fun v4 wr => ∃ i : Nat, i ≤ n ∧ v4 = .int .i64 i ∧ Hid (OVs wr V (fun j => if j < k then mF else if j = k then i else 0) ∧ OnlyB (inV V) w wr)) (fun v4 _ => n - (intOf v4).toNat)
        case atStart => exact ⟨0, Nat.zero_le _, rfl, hst⟩
        case round =>
          obtain ⟨i, hi, rfl, hJ⟩ := hrel
          have q1 := (HRow.out.only hJ.out.2).cells k _ HV.out
          by_cases hin : i < n
          · have hr := hJ.out.1.row k _ HV.out
            rw [if_neg (Nat.lt_irrefl k), if_pos rfl] at hr
            obtain ⟨cur, _, _, hh, hs, _⟩ := hr.open_
            have HC := Lib.hid (And.intro hh (And.intro hs hr))
            have hini : (i : Int) < (n : Int) := by omega
            have hbb : inV V b := ⟨_, List.mem_of_getElem? HV.out, rfl⟩
            clear hh hs hr
            go_wp2_with (first
              | ((with_reducible refine wpList_store1 rfl 3 (.tmp 36) (.tmp 34) rfl b (i * 32 + 2) 48 cur (.int .i64 (-7 - (k : Int))) ?q1 ?q2 ?q3 ?q4 ?q5 ?q6 ?q7 ?_); (case q1 => rfl); (case q2 => rfl); (case q3 => rfl); (case q4 => exact HC.out.1); (case q5 => (have := HC.out.2.1; have := HK.out.1; omega)); (case q6 => kernel_rfl); (case q7 => rfl); intro w6 hh6 hk6 hb6 hz6; have HO6 := Lib.hid (And.intro hh6 (And.intro hk6 (hJ.out.2.trans (OnlyB.stored hk6 hb6 hbb)))); have q2 := (HRow.out.only HO6.out.2.2).cells k _ HV.out; clear hh6 hk6 hb6 hz6)
              | ((with_reducible refine wpList_store1 rfl 3 (.tmp 44) (.tmp 42) rfl b (i * 32 + 3) 48 (cur.setIfInBounds (i * 32 + 2) (.int .i64 (-7 - (k : Int)))) (.int .i64 (i : Int)) ?r1 ?r2 ?r3 ?r4 ?r5 ?r6 ?r7 ?_); (case r1 => rfl); (case r2 => rfl); (case r3 => rfl); (case r4 => exact HO6.out.1); (case r5 => (rw [Array.size_setIfInBounds]; have := HC.out.2.1; have := HK.out.1; omega)); (case r6 => kernel_rfl); (case r7 => rfl); intro w7 hh7 hk7 hb7 hz7; have hst7 : Hid (OVs w7 V (fun j => if j < k then mF else if j = k then i + 1 else 0) ∧ OnlyB (inV V) w w7) := Lib.hid ⟨hJ.out.1.turn HA.out HV.out (fun g hg => (hk7 g (fun e => hg (by rw [e]; rfl))).trans (HO6.out.2.1 g (fun e => hg (by rw [e]; rfl)))) (OV.step HC.out.2.2 (by have := HK.out.1; omega) HC.out.1 (by rw [hh7, mkB, if_pos hin])), HO6.out.2.2.trans (OnlyB.stored hk7 hb7 hbb)⟩; clear hh7 hk7 hb7 hz7))
            go_roundw
            case rel => exact ⟨i + 1, by omega, by go_num, hst7⟩
            case measure => simp [intOf]; omega
          · obtain rfl : n = i := by omega
            obtain ⟨A6, hcut, hA6⟩ := cut_spare b n c HK.out.1
            have hA6 := Lib.hid hA6
            have hcn : (n : Int) ≤ (c : Int) := by have := HK.out.1; omega
            go_wp2
            rename World => wo2
            go_loopw [7] (fun v7 wr => ∃ i : Nat, i ≤ c - n ∧ i ≤ 64 ∧ v7 = .int .i64 i ∧ Hid (OVs wr V (fun j => if j < k then mF else if j = k then n + i else 0) ∧ OnlyB (inV V) w wr)) (fun v7 _ => c - n - (intOf v7).toNat)
            case atStart => exact ⟨0, Nat.zero_le _, Nat.zero_le _, rfl, hJ⟩
            case round =>
              obtain ⟨i, hi, hi6, rfl, hJ⟩ := hrel
              by_cases hin : i < c - n
              · by_cases hi64 : i < 64
                · have hr := hJ.out.1.row k _ HV.out
                  rw [if_neg (Nat.lt_irrefl k), if_pos rfl] at hr
                  obtain ⟨cur, _, _, hh, hs, _⟩ := hr.open_
                  obtain rfl := hA6.out (by omega)
                  have HC := Lib.hid (And.intro hh (And.intro hs hr))
                  have hini : (i : Int) < ((c - n : Nat) : Int) := by omega
                  have hi64' : (i : Int) < 64 := by omega
                  have hwi : wrap64 (1000 + (i : Int)) = 1000 + (i : Int) := by unfold wrap64; omega
                  have hbb : inV V b := ⟨_, List.mem_of_getElem? HV.out, rfl⟩
                  clear hh hs hr
                  go_wp2_with (first
                    | ((with_reducible refine wpList_store1 rfl 3 (.tmp 70) (.tmp 68) rfl b (n * 32 + i * 32 + 2) 48 cur (.int .i64 (-7 - (k : Int))) ?q1 ?q2 ?q3 ?q4 ?q5 ?q6 ?q7 ?_); (case q1 => rfl); (case q2 => rfl); (case q3 => rfl); (case q4 => exact HC.out.1); (case q5 => (have := HC.out.2.1; have := HK.out.1; omega)); (case q6 => kernel_rfl); (case q7 => rfl); intro w6 hh6 hk6 hb6 hz6; have HO6 := Lib.hid (And.intro hh6 (And.intro hk6 (hJ.out.2.trans (OnlyB.stored hk6 hb6 hbb)))); clear hh6 hk6 hb6 hz6)
                    | ((with_reducible refine wpList_store1 rfl 3 (.tmp 76) (.tmp 74) rfl b (n * 32 + i * 32 + 3) 48 (cur.setIfInBounds (n * 32 + i * 32 + 2) (.int .i64 (-7 - (k : Int)))) (.int .i64 (1000 + (i : Int))) ?r1 ?r2 ?r3 ?r4 ?r5 ?r6 ?r7 ?_); (case r1 => rfl); (case r2 => rfl); (case r3 => rfl); (case r4 => exact HO6.out.1); (case r5 => (rw [Array.size_setIfInBounds]; have := HC.out.2.1; have := HK.out.1; omega)); (case r6 => kernel_rfl); (case r7 => rfl); intro w7 hh7 hk7 hb7 hz7; have hst7 : Hid (OVs w7 V (fun j => if j < k then mF else if j = k then n + (i + 1) else 0) ∧ OnlyB (inV V) w w7) := Lib.hid ⟨hJ.out.1.turn HA.out HV.out (fun g hg => (hk7 g (fun e => hg (by rw [e]; rfl))).trans (HO6.out.2.1 g (fun e => hg (by rw [e]; rfl)))) (OV.step (i := n + i) HC.out.2.2 (by omega) HC.out.1 (by rw [hh7, mkB, if_neg (by omega), Nat.add_mul, show 1000 + (((n + i : Nat) : Int) - (n : Int)) = 1000 + (i : Int) by omega])), HO6.out.2.2.trans (OnlyB.stored hk7 hb7 hbb)⟩; clear hh7 hk7 hb7 hz7))
                  go_roundw
                  case rel => exact ⟨i + 1, by omega, by omega, by go_num, hst7⟩
                  case measure => simp [intOf]; omega
                · obtain rfl : i = 64 := by omega
                  have hnx : Hid (OVs wr V (fun j => if j < k + 1 then mF else 0) ∧ OnlyB (inV V) w wr) := Lib.hid ⟨hJ.out.1.next HV.out (by
                    have hr := hJ.out.1.row k _ HV.out
                    rw [if_neg (Nat.lt_irrefl k), if_pos rfl] at hr
                    exact hr.fin (.inr (Nat.le_refl _))), hJ.out.2⟩
                  have hini : (64 : Int) < ((c - n : Nat) : Int) := by omega
                  go_wp2
                  go_roundw
                  case rel => exact ⟨k + 1, by omega, by go_num, hnx⟩
                  case measure => simp [intOf]; omega
              · have hic : i = c - n := by omega
                subst hic
                have hnx : Hid (OVs wr V (fun j => if j < k + 1 then mF else 0) ∧ OnlyB (inV V) w wr) := Lib.hid ⟨hJ.out.1.next HV.out (by
                    have hr := hJ.out.1.row k _ HV.out
                    rw [if_neg (Nat.lt_irrefl k), if_pos rfl] at hr
                    exact hr.fin (.inl (by have := HK.out.1; omega))), hJ.out.2⟩
                go_wp2
                go_roundw
                case rel => exact ⟨k + 1, by omega, by go_num, hnx⟩
                case measure => simp [intOf]; omega
    · obtain rfl : N = k := by omega
      have HF := Lib.hid (And.intro hI.out.1 (And.intro hI.out.2 (HRow.out.only hI.out.2)))
      clear hI
      rename World => wa
      go_wp2
      go_loopw [8] (fun v8 wr => ∃ k : Nat, k ≤ N ∧ v8 = .int .i64 k ∧ wr = wa) (fun v8 _ => N - (intOf v8).toNat)
      case atStart => exact ⟨0, Nat.zero_le _, rfl, rfl⟩
      case round =>
        obtain ⟨k, hk, rfl, rfl⟩ := hrel
        by_cases hkn : k < N
        · obtain ⟨v, hv⟩ : ∃ v, V[k]? = some v := ⟨_, List.getElem?_eq_getElem (by have := HL.out; omega)⟩
          have hr := HF.out.1.row k v hv
          rw [if_pos hkn] at hr
          have hlk : (k : Int) < (N : Int) := by omega
          have q1 := HF.out.2.2.cells k _ hv
          have hz7 : wrap64 (-7 - (k : Int)) = -7 - (k : Int) := by unfold wrap64; omega
          have HV := Lib.hid hv
          cases hr with
          | nil =>
            clear hv
            go_wp2
            go_rounds 1
            go_rounds 1
            go_roundw
            case rel => exact ⟨k + 1, by omega, by go_num, by first | rfl | trivial⟩
            case measure => simp [intOf]; omega
          | one b n c cur hn hx hh hs hm =>
            have HK := Lib.hid (And.intro hn hx)
            have HC : Hid (∀ i, i < c → i < n + 64 → wr.cell? ⟨b, i * 32 + 2, none⟩ = some (.int .i64 (-7 - (k : Int))) ∧ wr.cell? ⟨b, i * 32 + 3, none⟩ = some (.int .i64 (mkB n i))) := Lib.hid fun i hi h6 => by
              have hm' := hm i (by show i < 18446744073709551616; omega) hi h6
              rw [cell_of_row _ b _ cur _ _ hh, cell_of_row _ b _ cur _ _ hh]
              exact hm'
            clear hh hs hm hv cur
            go_wp2
            rename World => wo
            go_loopw [9] (fun v9 wr => ∃ i : Nat, i ≤ n ∧ v9 = .int .i64 i ∧ wr = wo) (fun v9 _ => n - (intOf v9).toNat)
            case atStart => exact ⟨0, Nat.zero_le _, rfl, rfl⟩
            case round =>
              obtain ⟨i, hi, rfl, rfl⟩ := hrel
              by_cases hin : i < n
              · obtain ⟨c1, c2⟩ := HC.out i (by have := HK.out.1; omega) (by omega)
                rw [mkB, if_pos hin] at c2
                have hini : (i : Int) < (n : Int) := by omega
                go_wp2
                go_roundw
                case rel => exact ⟨i + 1, by omega, by go_num, by first | rfl | trivial⟩
                case measure => simp [intOf]; omega
              · obtain rfl : n = i := by omega
                obtain ⟨A6, hcut, hA6⟩ := cut_spare b n c HK.out.1
                have hA6 := Lib.hid hA6
                have hcn : (n : Int) ≤ (c : Int) := by have := HK.out.1; omega
                go_wp2
                rename World => wo2
                go_loopw [12] (fun v12 wr => ∃ i : Nat, i ≤ c - n ∧ i ≤ 64 ∧ v12 = .int .i64 i ∧ wr = wo2) (fun v12 _ => c - n - (intOf v12).toNat)
                case atStart => exact ⟨0, Nat.zero_le _, Nat.zero_le _, rfl, rfl⟩
                case round =>
                  obtain ⟨i, hi, hi6, rfl, rfl⟩ := hrel
                  by_cases hin : i < c - n
                  · by_cases hi64 : i < 64
                    · obtain ⟨c1, c2⟩ := HC.out (n + i) (by omega) (by omega)
                      obtain rfl := hA6.out (by omega)
                      rw [mkB, if_neg (by omega), show 1000 + (((n + i : Nat) : Int) - (n : Int)) = 1000 + (i : Int) by omega, Nat.add_mul] at c2
                      rw [Nat.add_mul] at c1
                      have hini : (i : Int) < ((c - n : Nat) : Int) := by omega
                      have hi64' : (i : Int) < 64 := by omega
                      have hwi : wrap64 (1000 + (i : Int)) = 1000 + (i : Int) := by unfold wrap64; omega
                      go_wp2
                      go_roundw
                      case rel => exact ⟨i + 1, by omega, by omega, by go_num, by first | rfl | trivial⟩
                      case measure => simp [intOf]; omega
                    · obtain rfl : i = 64 := by omega
                      have hini : (64 : Int) < ((c - n : Nat) : Int) := by omega
                      go_wp2
                      go_roundw
                      case rel => exact ⟨k + 1, by omega, by go_num, by first | rfl | trivial⟩
                      case measure => simp [intOf]; omega
                  · have hic : i = c - n := by omega
                    subst hic
                    go_wp2
                    go_roundw
                    case rel => exact ⟨k + 1, by omega, by go_num, by first | rfl | trivial⟩
                    case measure => simp [intOf]; omega
        · obtain rfl : N = k := by omega
          go_wp2
          go_ret
          exact ⟨rfl, HF.out.2.1⟩
end Go.Proofs.YtoepbjgldmgaoaaDoor

/- The book's other lists are empty: no round of any loop. -/
namespace Go.Proofs.YtoepbjgldmgaoaaDoor
set_option maxRecDepth 100000
open Go.RowKit Go.Proofs.YtoepbjgldmgaoaaDoorW.PrintWords Go.Proofs.YtoepbjgldmgaoaaDoorW.PrintLast
theorem nil_apartOps (w : World) : Calls Tryd.prog 53 #[.slice none 0 0] w fun e w' => e = .returned (.bool true) ∧ w' = w := by
  go_enter Tryd.func53, Tryd.ntmps53
  go_wp2
  go_rounds 1
  go_rounds 1
  go_ret
  exact ⟨rfl, rfl⟩
theorem nil_ApartBytes (w : World) : Calls Tryd.prog 54 #[.slice none 0 0] w fun e w' => e = .returned (.bool true) ∧ w' = w := by
  go_enter Tryd.func54, Tryd.ntmps54
  go_wp2
  go_rounds 1
  go_rounds 1
  go_rounds 1
  go_ret
  exact ⟨rfl, rfl⟩
theorem nil_ApartTexts (w : World) : Calls Tryd.prog 55 #[.slice none 0 0] w fun e w' => e = .returned (.bool true) ∧ w' = w := by
  go_enter Tryd.func55, Tryd.ntmps55
  go_wp2
  go_rounds 1
  go_rounds 1
  go_rounds 1
  go_ret
  exact ⟨rfl, rfl⟩
theorem nil_ApartInts (w : World) : Calls Tryd.prog 56 #[.slice none 0 0] w fun e w' => e = .returned (.bool true) ∧ w' = w := by
  go_enter Tryd.func56, Tryd.ntmps56
  go_wp2
  go_rounds 1
  go_rounds 1
  go_rounds 1
  go_ret
  exact ⟨rfl, rfl⟩
theorem nil_ApartNumbers (w : World) : Calls Tryd.prog 57 #[.slice none 0 0] w fun e w' => e = .returned (.bool true) ∧ w' = w := by
  go_enter Tryd.func57, Tryd.ntmps57
  go_wp2
  go_rounds 1
  go_rounds 1
  go_rounds 1
  go_ret
  exact ⟨rfl, rfl⟩
theorem nil_ApartBools (w : World) : Calls Tryd.prog 58 #[.slice none 0 0] w fun e w' => e = .returned (.bool true) ∧ w' = w := by
  go_enter Tryd.func58, Tryd.ntmps58
  go_wp2
  go_rounds 1
  go_rounds 1
  go_rounds 1
  go_ret
  exact ⟨rfl, rfl⟩
theorem nil_ApartKeys (w : World) : Calls Tryd.prog 60 #[.slice none 0 0] w fun e w' => e = .returned (.bool true) ∧ w' = w := by
  go_enter Tryd.func60, Tryd.ntmps60
  go_wp2
  go_rounds 1
  go_rounds 1
  go_rounds 1
  go_ret
  exact ⟨rfl, rfl⟩
theorem nil_ApartConds (w : World) : Calls Tryd.prog 61 #[.slice none 0 0] w fun e w' => e = .returned (.bool true) ∧ w' = w := by
  go_enter Tryd.func61, Tryd.ntmps61
  go_wp2
  go_rounds 1
  go_rounds 1
  go_rounds 1
  go_ret
  exact ⟨rfl, rfl⟩
theorem nil_ApartAmounts (w : World) : Calls Tryd.prog 62 #[.slice none 0 0] w fun e w' => e = .returned (.bool true) ∧ w' = w := by
  go_enter Tryd.func62, Tryd.ntmps62
  go_wp2
  go_rounds 1
  go_rounds 1
  go_rounds 1
  go_ret
  exact ⟨rfl, rfl⟩
theorem nil_ApartProbes (w : World) : Calls Tryd.prog 63 #[.slice none 0 0] w fun e w' => e = .returned (.bool true) ∧ w' = w := by
  go_enter Tryd.func63, Tryd.ntmps63
  go_wp2
  go_rounds 1
  go_rounds 1
  go_rounds 1
  go_ret
  exact ⟨rfl, rfl⟩
end Go.Proofs.YtoepbjgldmgaoaaDoor

/- RankOrder walked: which pods end first is an order. -/
namespace Go.Proofs.YtoepbjgldmgaoaaDoor
open Go.RowKit Go.Proofs.YtoepbjgldmgaoaaDoorW.PrintWords Go.Proofs.YtoepbjgldmgaoaaDoorW.PrintLast
abbrev LessIs (x y : Array Value) (b : Bool) : Prop := ∀ w : World, Calls Tryd.prog 19 #[.agg x, .agg y] w fun e w' => e = .returned (.bool b) ∧ Below w.heap.size w w'
def rg6_6_T : Bool × List (List Nat × List Nat) := (true, [([], []), ([0], [0]), ([1], [1]), ([2], [2]), ([2], [2]), ([3, 4, 2, 2], [2, 3, 4]), ([2], [2]), ([2], [2]), ([6, 7, 5, 2], [2, 6, 7]), ([5, 8, 2], [2, 5, 8]), ([9, 8, 2], [2, 9]), ([10], [10]), ([10], [10]), ([11, 12, 10, 10], [10, 11, 12]), ([10], [10]), ([10], [10]), ([14, 15, 13, 10], [10, 14, 15]), ([13, 16, 10], [10, 13, 16]), ([10, 17, 2], [2, 10, 17]), ([2, 18], [2, 18]), ([19, 16, 0, 1, 2, 3, 4, 5, 6, 7, 8, 9, 10, 11, 12, 13, 14, 15, 16, 17, 18, 19], [19])])
def rg6_6_B : List Nat := [0, 1, 3, 7, 7, 31, 7, 7, 255, 511, 1023, 2047, 2047, 8191, 2047, 2047, 65535, 131071, 262143, 524287, 1048575]
structure PodV (x : Array Value) (p : PK) : Prop where
  pod : Pod x p.name p.born p.node p.phase p.ready
  fits : p.name.size ≤ 140737488351232
end Go.Proofs.YtoepbjgldmgaoaaDoor

/- RankFirst walked: fewer victims are the first ones of more, none that is left ends ahead of one of them; of those that run on a node the ready ones end last. -/
namespace Go.Proofs.YtoepbjgldmgaoaaDoor
open Go.RowKit Go.Proofs.YtoepbjgldmgaoaaDoorW.PrintWords Go.Proofs.YtoepbjgldmgaoaaDoorW.PrintLast
attribute [local go_sem] Go.Proofs.YtoepbjgldmgaoaaDoorW.PrintMore.max_two Go.Proofs.YtoepbjgldmgaoaaDoorW.PrintMore.min_two
def cO (a b : Ob) : Int := cV a.pk b.pk
def runs (o : Ob) : Prop := ¬ (o.node.toList = [] ∨ ¬ o.phase = 1)
def rg7_19_T : Bool × List (List Nat × List Nat) := (true, [([], []), ([], []), ([0, 1], [0, 1]), ([2], [2]), ([3], [3]), ([4], [4]), ([5], [5]), ([5], [5]), ([5], [5]), ([7, 8, 5], [5, 7, 8]), ([9, 5], [5, 9]), ([6, 10, 5, 5], [5, 6, 10]), ([11, 5], [5, 11]), ([5, 12], [5, 12]), ([13, 11], [13]), ([14], [14]), ([15, 14], [14, 15]), ([16, 14, 14], [14, 16]), ([17], [17]), ([17], [17]), ([18, 19, 17], [17, 18, 19]), ([20, 17], [17, 20]), ([17], [17]), ([17], [17]), ([23, 17], [17, 23]), ([22, 24, 17], [17, 22, 24]), ([25, 17], [17, 25]), ([21, 26, 17, 17], [17, 21, 26]), ([17, 27, 14], [14, 17, 27]), ([14, 28], [14, 28])])
def rg7_19_B : List Nat := [0, 0, 3, 7, 15, 31, 63, 63, 63, 447, 959, 2047, 4095, 8191, 16383, 32767, 65535, 131071, 262143, 262143, 1048575, 2097151, 262143, 262143, 8650751, 29622271, 63176703, 134217727, 268435455, 536870911]
end Go.Proofs.YtoepbjgldmgaoaaDoor

/- An object that is an argument, opened: the parts that rank.Less looks at. -/
namespace Go.Proofs.YtoepbjgldmgaoaaDoor
open Go.ChangeShapes Go.WideShapes Go.RowKit
end Go.Proofs.YtoepbjgldmgaoaaDoor

/- Objects, and lists of objects, that are arguments: opened. -/
namespace Go.Proofs.YtoepbjgldmgaoaaDoor
set_option maxRecDepth 100000
open Go.ChangeShapes Go.WideShapes Go.RowKit Go.Proofs.YtoepbjgldmgaoaaDoorW.PrintWords
theorem weights_mem_all {H : Type} {P : Program} {e : TypeId} : ∀ {ds : List (DataW H)} {j : Nat} {d : DataW H}, ds[j]? = some d → ∀ n ∈ d.weights P e, n ∈ DataW.weightsAll P e ds
  | [], _, _, h, _, _ => by simp at h
  | d0 :: ds, 0, d, h, n, hn => by
    obtain rfl : d0 = d := by simpa using h
    simp only [DataW.weightsAll, List.mem_append]
    exact .inl hn
  | d0 :: ds, j + 1, d, h, n, hn => by
    simp only [DataW.weightsAll, List.mem_append]
    exact .inr (weights_mem_all (by simpa using h) n hn)
section
variable {H : Type} {enc : TypeId × Value → H} {W : World} {base : Nat} {spare : Nat → Bool} {held : Bool}
set_option maxRecDepth 100000 in
theorem open_labels {fuel : Nat} {cs : List Value} {x : DataW H × List MemPlace} (hw : ∀ n ∈ x.1.weights Tryd.prog 43, n ≤ reachBytes) (h : DataW.trod enc Tryd.prog W base spare held fuel 43 cs = some x) :
    ∃ v l, cs = [v] ∧ LabK W l v ∧ l.length ≤ 4398046510976 := by
  rcases Deep.open_slice_pairs Tryd.underlying43 Tryd.underlying98 (by kernel_rfl) rfl rfl (by kernel_rfl) (by kernel_rfl) h with ⟨hcs, hx⟩ | ⟨a, len, cap, m, n, V0, V1, D0, D1, P0, P1, hcs, hb, hl, hm, hmm, hx, hc⟩
  · subst hcs
    exact ⟨_, [], rfl, ⟨none, 0, rfl, Nat.le_refl _, Kd.C_nil _ _⟩, by simp⟩
  · subst hcs
    subst hx
    have hlm : len ≤ m := by rw [hmm]; split <;> omega
    have z : (len + (m - len)) * Tryd.prog.bytesOf 98 ≤ reachBytes := hw _ (by
      unfold DataW.weights
      rw [Tryd.underlying43]
      simp)
    rw [show Tryd.prog.bytesOf 98 = 32 by kernel_rfl] at z
    have each : ∀ i, i < len → ∃ p : Lab, W.cell? (a.add (i * 2)) = some (.string p.f0) ∧ W.cell? (a.add (i * 2 + 1)) = some (.string p.f1) := by
      intro i hi
      obtain ⟨h1, h2, h3, h4⟩ := hc i (by omega)
      obtain ⟨a0, e0, _, _⟩ := DataW.trod_string Tryd.underlying9 h3
      obtain ⟨a1, e1, _, _⟩ := DataW.trod_string Tryd.underlying9 h4
      simp at e0 e1
      exact ⟨⟨a0, a1⟩, by rw [h1, e0], by rw [h2, e1]⟩
    haveI : Inhabited Lab := ⟨⟨ByteArray.empty, ByteArray.empty⟩⟩
    obtain ⟨f, hf'⟩ := Deep.choose_lt each
    have hlen : ((List.range len).map f).length = len := by simp
    unfold reachBytes at z
    refine ⟨_, (List.range len).map f, rfl, ⟨some a, cap, by rw [hlen], by rw [hlen]; exact hl, ?_⟩, by rw [hlen]; omega⟩
    rw [hlen]
    refine ⟨hlen, by omega, fun _ => ⟨a, rfl, fun j p hj => ?_⟩⟩
    have hjl : j < len := by have := (List.getElem?_eq_some_iff.1 hj).1; rw [hlen] at this; exact this
    have hp : f j = p := by simpa [List.getElem?_range hjl] using hj
    subst hp
    refine ⟨[.string (f j).f0, .string (f j).f1], rfl, QLb.k98_mk W (f j), fun i u hu => ?_⟩
    match i with
    | 0 => obtain rfl : Value.string (f j).f0 = u := by simpa using hu
           exact (hf' j hjl).1
    | 1 => obtain rfl : Value.string (f j).f1 = u := by simpa using hu
           exact (hf' j hjl).2
    | i + 2 => simp at hu
def Ob.ints (o : Ob) : List Int := [o.kind, o.version, o.born, o.roomC, o.roomM, o.beat, o.phase, o.needC, o.needM, o.rise, o.fall, o.count, o.surge, o.slack, o.least, o.term, o.till]
def ObInts (o : Ob) : Prop := ∀ z ∈ o.ints, -9223372036854775808 ≤ z ∧ z ≤ 9223372036854775807
set_option maxRecDepth 100000 in
set_option maxHeartbeats 1000000 in
theorem open_obj {fuel : Nat} {cs : List Value} {x : DataW H × List MemPlace} (hw : ∀ n ∈ x.1.weights Tryd.prog 48, n ≤ reachBytes) (h : DataW.trod enc Tryd.prog W base spare held fuel 48 cs = some x) :
    ∃ o v4 v27, cs = (o.cells v4 v27).toList ∧ LabK W o.labels v4 ∧ LabK W o.select v27 ∧ ObFits o ∧ ObInts o := by
  have hu := Tryd.underlying48
  obtain ⟨xs, m, _, hx, hlen, hl, hfd⟩ := DataW.trod_struct hu h
  rw [show Tryd.prog.cellsOf 48 = 32 by kernel_rfl] at hlen
  have hwd : ∀ (j : Nat) (t : TypeId) (y : DataW H × List MemPlace), xs[j]? = some y → (Program.underlying Tryd.prog 48).elim none (fun d => match d with | .struct fs => (fs.toList.map (·.type))[j]? | _ => none) = some t → ∀ n ∈ y.1.weights Tryd.prog t, n ≤ reachBytes := fun j t y hy ht n hn => hw n (by
    rw [hx]
    unfold DataW.weights
    rw [hu] at ht ⊢
    exact DataW.weights_mem_each (j := j) (t := t) (d := y.1) ht (by simp [hy]) n hn)
  rw [hu] at hwd
  have c1 : Tryd.prog.cellsOf 9 = 1 := by kernel_rfl
  have c2 : Tryd.prog.cellsOf 3 = 1 := by kernel_rfl
  have c3 : Tryd.prog.cellsOf 4 = 1 := by kernel_rfl
  have c4 : Tryd.prog.cellsOf 46 = 1 := by kernel_rfl
  have c5 : Tryd.prog.cellsOf 43 = 1 := by kernel_rfl
  have c6 : Tryd.prog.cellsOf 45 = 2 := by kernel_rfl
  have ex : ∀ j, j < 30 → ∃ y, xs[j]? = some y := fun j hj => ⟨_, List.getElem?_eq_getElem (by rw [hl]; exact hj)⟩
  have f0 : DataW.trod enc Tryd.prog W base spare held m 3 ((cs.drop 0).take (Tryd.prog.cellsOf 3)) = xs[0]? := hfd 0 _ rfl
  rw [c2] at f0
  obtain ⟨y0, e0⟩ := ex 0 (by omega)
  rw [e0] at f0
  clear e0
  have f1 : DataW.trod enc Tryd.prog W base spare held m 9 ((cs.drop 1).take (Tryd.prog.cellsOf 9)) = xs[1]? := hfd 1 _ rfl
  rw [c1] at f1
  obtain ⟨y1, e1⟩ := ex 1 (by omega)
  rw [e1] at f1
  have w1 := hwd 1 9 y1 e1 rfl
  clear e1
  have f2 : DataW.trod enc Tryd.prog W base spare held m 3 ((cs.drop 2).take (Tryd.prog.cellsOf 3)) = xs[2]? := hfd 2 _ rfl
  rw [c2] at f2
  obtain ⟨y2, e2⟩ := ex 2 (by omega)
  rw [e2] at f2
  clear e2
  have f3 : DataW.trod enc Tryd.prog W base spare held m 3 ((cs.drop 3).take (Tryd.prog.cellsOf 3)) = xs[3]? := hfd 3 _ rfl
  rw [c2] at f3
  obtain ⟨y3, e3⟩ := ex 3 (by omega)
  rw [e3] at f3
  clear e3
  have f4 : DataW.trod enc Tryd.prog W base spare held m 43 ((cs.drop 4).take (Tryd.prog.cellsOf 43)) = xs[4]? := hfd 4 _ rfl
  rw [c5] at f4
  obtain ⟨y4, e4⟩ := ex 4 (by omega)
  rw [e4] at f4
  have w4 := hwd 4 43 y4 e4 rfl
  clear e4
  have f5 : DataW.trod enc Tryd.prog W base spare held m 45 ((cs.drop 5).take (Tryd.prog.cellsOf 45)) = xs[5]? := hfd 5 _ rfl
  rw [c6] at f5
  obtain ⟨y5, e5⟩ := ex 5 (by omega)
  rw [e5] at f5
  clear e5
  have f6 : DataW.trod enc Tryd.prog W base spare held m 4 ((cs.drop 7).take (Tryd.prog.cellsOf 4)) = xs[6]? := hfd 6 _ rfl
  rw [c3] at f6
  obtain ⟨y6, e6⟩ := ex 6 (by omega)
  rw [e6] at f6
  clear e6
  have f7 : DataW.trod enc Tryd.prog W base spare held m 4 ((cs.drop 8).take (Tryd.prog.cellsOf 4)) = xs[7]? := hfd 7 _ rfl
  rw [c3] at f7
  obtain ⟨y7, e7⟩ := ex 7 (by omega)
  rw [e7] at f7
  clear e7
  have f8 : DataW.trod enc Tryd.prog W base spare held m 4 ((cs.drop 9).take (Tryd.prog.cellsOf 4)) = xs[8]? := hfd 8 _ rfl
  rw [c3] at f8
  obtain ⟨y8, e8⟩ := ex 8 (by omega)
  rw [e8] at f8
  clear e8
  have f9 : DataW.trod enc Tryd.prog W base spare held m 3 ((cs.drop 10).take (Tryd.prog.cellsOf 3)) = xs[9]? := hfd 9 _ rfl
  rw [c2] at f9
  obtain ⟨y9, e9⟩ := ex 9 (by omega)
  rw [e9] at f9
  clear e9
  have f10 : DataW.trod enc Tryd.prog W base spare held m 9 ((cs.drop 11).take (Tryd.prog.cellsOf 9)) = xs[10]? := hfd 10 _ rfl
  rw [c1] at f10
  obtain ⟨y10, e10⟩ := ex 10 (by omega)
  rw [e10] at f10
  have w10 := hwd 10 9 y10 e10 rfl
  clear e10
  have f11 : DataW.trod enc Tryd.prog W base spare held m 9 ((cs.drop 12).take (Tryd.prog.cellsOf 9)) = xs[11]? := hfd 11 _ rfl
  rw [c1] at f11
  obtain ⟨y11, e11⟩ := ex 11 (by omega)
  rw [e11] at f11
  have w11 := hwd 11 9 y11 e11 rfl
  clear e11
  have f12 : DataW.trod enc Tryd.prog W base spare held m 9 ((cs.drop 13).take (Tryd.prog.cellsOf 9)) = xs[12]? := hfd 12 _ rfl
  rw [c1] at f12
  obtain ⟨y12, e12⟩ := ex 12 (by omega)
  rw [e12] at f12
  have w12 := hwd 12 9 y12 e12 rfl
  clear e12
  have f13 : DataW.trod enc Tryd.prog W base spare held m 3 ((cs.drop 14).take (Tryd.prog.cellsOf 3)) = xs[13]? := hfd 13 _ rfl
  rw [c2] at f13
  obtain ⟨y13, e13⟩ := ex 13 (by omega)
  rw [e13] at f13
  clear e13
  have f14 : DataW.trod enc Tryd.prog W base spare held m 4 ((cs.drop 15).take (Tryd.prog.cellsOf 4)) = xs[14]? := hfd 14 _ rfl
  rw [c3] at f14
  obtain ⟨y14, e14⟩ := ex 14 (by omega)
  rw [e14] at f14
  clear e14
  have f15 : DataW.trod enc Tryd.prog W base spare held m 4 ((cs.drop 16).take (Tryd.prog.cellsOf 4)) = xs[15]? := hfd 15 _ rfl
  rw [c3] at f15
  obtain ⟨y15, e15⟩ := ex 15 (by omega)
  rw [e15] at f15
  clear e15
  have f16 : DataW.trod enc Tryd.prog W base spare held m 45 ((cs.drop 17).take (Tryd.prog.cellsOf 45)) = xs[16]? := hfd 16 _ rfl
  rw [c6] at f16
  obtain ⟨y16, e16⟩ := ex 16 (by omega)
  rw [e16] at f16
  clear e16
  have f17 : DataW.trod enc Tryd.prog W base spare held m 9 ((cs.drop 19).take (Tryd.prog.cellsOf 9)) = xs[17]? := hfd 17 _ rfl
  rw [c1] at f17
  obtain ⟨y17, e17⟩ := ex 17 (by omega)
  rw [e17] at f17
  have w17 := hwd 17 9 y17 e17 rfl
  clear e17
  have f18 : DataW.trod enc Tryd.prog W base spare held m 3 ((cs.drop 20).take (Tryd.prog.cellsOf 3)) = xs[18]? := hfd 18 _ rfl
  rw [c2] at f18
  obtain ⟨y18, e18⟩ := ex 18 (by omega)
  rw [e18] at f18
  clear e18
  have f19 : DataW.trod enc Tryd.prog W base spare held m 3 ((cs.drop 21).take (Tryd.prog.cellsOf 3)) = xs[19]? := hfd 19 _ rfl
  rw [c2] at f19
  obtain ⟨y19, e19⟩ := ex 19 (by omega)
  rw [e19] at f19
  clear e19
  have f20 : DataW.trod enc Tryd.prog W base spare held m 3 ((cs.drop 22).take (Tryd.prog.cellsOf 3)) = xs[20]? := hfd 20 _ rfl
  rw [c2] at f20
  obtain ⟨y20, e20⟩ := ex 20 (by omega)
  rw [e20] at f20
  clear e20
  have f21 : DataW.trod enc Tryd.prog W base spare held m 3 ((cs.drop 23).take (Tryd.prog.cellsOf 3)) = xs[21]? := hfd 21 _ rfl
  rw [c2] at f21
  obtain ⟨y21, e21⟩ := ex 21 (by omega)
  rw [e21] at f21
  clear e21
  have f22 : DataW.trod enc Tryd.prog W base spare held m 3 ((cs.drop 24).take (Tryd.prog.cellsOf 3)) = xs[22]? := hfd 22 _ rfl
  rw [c2] at f22
  obtain ⟨y22, e22⟩ := ex 22 (by omega)
  rw [e22] at f22
  clear e22
  have f23 : DataW.trod enc Tryd.prog W base spare held m 4 ((cs.drop 25).take (Tryd.prog.cellsOf 4)) = xs[23]? := hfd 23 _ rfl
  rw [c3] at f23
  obtain ⟨y23, e23⟩ := ex 23 (by omega)
  rw [e23] at f23
  clear e23
  have f24 : DataW.trod enc Tryd.prog W base spare held m 46 ((cs.drop 26).take (Tryd.prog.cellsOf 46)) = xs[24]? := hfd 24 _ rfl
  rw [c4] at f24
  obtain ⟨y24, e24⟩ := ex 24 (by omega)
  rw [e24] at f24
  clear e24
  have f25 : DataW.trod enc Tryd.prog W base spare held m 43 ((cs.drop 27).take (Tryd.prog.cellsOf 43)) = xs[25]? := hfd 25 _ rfl
  rw [c5] at f25
  obtain ⟨y25, e25⟩ := ex 25 (by omega)
  rw [e25] at f25
  have w25 := hwd 25 43 y25 e25 rfl
  clear e25
  have f26 : DataW.trod enc Tryd.prog W base spare held m 3 ((cs.drop 28).take (Tryd.prog.cellsOf 3)) = xs[26]? := hfd 26 _ rfl
  rw [c2] at f26
  obtain ⟨y26, e26⟩ := ex 26 (by omega)
  rw [e26] at f26
  clear e26
  have f27 : DataW.trod enc Tryd.prog W base spare held m 9 ((cs.drop 29).take (Tryd.prog.cellsOf 9)) = xs[27]? := hfd 27 _ rfl
  rw [c1] at f27
  obtain ⟨y27, e27⟩ := ex 27 (by omega)
  rw [e27] at f27
  have w27 := hwd 27 9 y27 e27 rfl
  clear e27
  have f28 : DataW.trod enc Tryd.prog W base spare held m 3 ((cs.drop 30).take (Tryd.prog.cellsOf 3)) = xs[28]? := hfd 28 _ rfl
  rw [c2] at f28
  obtain ⟨y28, e28⟩ := ex 28 (by omega)
  rw [e28] at f28
  clear e28
  have f29 : DataW.trod enc Tryd.prog W base spare held m 3 ((cs.drop 31).take (Tryd.prog.cellsOf 3)) = xs[29]? := hfd 29 _ rfl
  rw [c2] at f29
  obtain ⟨y29, e29⟩ := ex 29 (by omega)
  rw [e29] at f29
  clear e29
  clear hwd hw hx hfd ex h
  match cs, hlen with
  | [c0, c1, c2, c3, c4, c5, c6, c7, c8, c9, c10, c11, c12, c13, c14, c15, c16, c17, c18, c19, c20, c21, c22, c23, c24, c25, c26, c27, c28, c29, c30, c31], _ =>
    simp only [List.drop_succ_cons, List.drop_zero, List.take_succ_cons, List.take_zero] at f0
    obtain ⟨g0, h0, _, b0⟩ := DataW.trod_int Tryd.underlying3 f0
    obtain rfl : c0 = _ := by simpa using h0
    simp only [List.drop_succ_cons, List.drop_zero, List.take_succ_cons, List.take_zero] at f1
    obtain ⟨g1, h1, x1, _⟩ := DataW.trod_string Tryd.underlying9 f1
    obtain rfl : c1 = _ := by simpa using h1
    simp only [List.drop_succ_cons, List.drop_zero, List.take_succ_cons, List.take_zero] at f2
    obtain ⟨g2, h2, _, b2⟩ := DataW.trod_int Tryd.underlying3 f2
    obtain rfl : c2 = _ := by simpa using h2
    simp only [List.drop_succ_cons, List.drop_zero, List.take_succ_cons, List.take_zero] at f3
    obtain ⟨g3, h3, _, b3⟩ := DataW.trod_int Tryd.underlying3 f3
    obtain rfl : c3 = _ := by simpa using h3
    simp only [List.drop_succ_cons, List.drop_zero, List.take_succ_cons, List.take_zero] at f4
    obtain ⟨g4, l4, h4, K4, z4⟩ := open_labels w4 f4
    obtain rfl : c4 = _ := by simpa using h4
    simp only [List.drop_succ_cons, List.drop_zero, List.take_succ_cons, List.take_zero] at f5
    obtain ⟨p5, q5, m5, _, _, s5, t5⟩ := trod_struct2 Tryd.underlying45 f5
    simp only [c2, List.drop_succ_cons, List.drop_zero, List.take_succ_cons, List.take_zero] at s5 t5
    obtain ⟨g5, h5, _, b5⟩ := DataW.trod_int Tryd.underlying3 s5
    obtain ⟨g5', h5', _, b5'⟩ := DataW.trod_int Tryd.underlying3 t5
    obtain rfl : c5 = _ := by simpa using h5
    obtain rfl : c6 = _ := by simpa using h5'
    simp only [List.drop_succ_cons, List.drop_zero, List.take_succ_cons, List.take_zero] at f6
    obtain ⟨g6, h6, _⟩ := DataW.trod_bool Tryd.underlying4 f6
    obtain rfl : c7 = _ := by simpa using h6
    simp only [List.drop_succ_cons, List.drop_zero, List.take_succ_cons, List.take_zero] at f7
    obtain ⟨g7, h7, _⟩ := DataW.trod_bool Tryd.underlying4 f7
    obtain rfl : c8 = _ := by simpa using h7
    simp only [List.drop_succ_cons, List.drop_zero, List.take_succ_cons, List.take_zero] at f8
    obtain ⟨g8, h8, _⟩ := DataW.trod_bool Tryd.underlying4 f8
    obtain rfl : c9 = _ := by simpa using h8
    simp only [List.drop_succ_cons, List.drop_zero, List.take_succ_cons, List.take_zero] at f9
    obtain ⟨g9, h9, _, b9⟩ := DataW.trod_int Tryd.underlying3 f9
    obtain rfl : c10 = _ := by simpa using h9
    simp only [List.drop_succ_cons, List.drop_zero, List.take_succ_cons, List.take_zero] at f10
    obtain ⟨g10, h10, x10, _⟩ := DataW.trod_string Tryd.underlying9 f10
    obtain rfl : c11 = _ := by simpa using h10
    simp only [List.drop_succ_cons, List.drop_zero, List.take_succ_cons, List.take_zero] at f11
    obtain ⟨g11, h11, x11, _⟩ := DataW.trod_string Tryd.underlying9 f11
    obtain rfl : c12 = _ := by simpa using h11
    simp only [List.drop_succ_cons, List.drop_zero, List.take_succ_cons, List.take_zero] at f12
    obtain ⟨g12, h12, x12, _⟩ := DataW.trod_string Tryd.underlying9 f12
    obtain rfl : c13 = _ := by simpa using h12
    simp only [List.drop_succ_cons, List.drop_zero, List.take_succ_cons, List.take_zero] at f13
    obtain ⟨g13, h13, _, b13⟩ := DataW.trod_int Tryd.underlying3 f13
    obtain rfl : c14 = _ := by simpa using h13
    simp only [List.drop_succ_cons, List.drop_zero, List.take_succ_cons, List.take_zero] at f14
    obtain ⟨g14, h14, _⟩ := DataW.trod_bool Tryd.underlying4 f14
    obtain rfl : c15 = _ := by simpa using h14
    simp only [List.drop_succ_cons, List.drop_zero, List.take_succ_cons, List.take_zero] at f15
    obtain ⟨g15, h15, _⟩ := DataW.trod_bool Tryd.underlying4 f15
    obtain rfl : c16 = _ := by simpa using h15
    simp only [List.drop_succ_cons, List.drop_zero, List.take_succ_cons, List.take_zero] at f16
    obtain ⟨p16, q16, m16, _, _, s16, t16⟩ := trod_struct2 Tryd.underlying45 f16
    simp only [c2, List.drop_succ_cons, List.drop_zero, List.take_succ_cons, List.take_zero] at s16 t16
    obtain ⟨g16, h16, _, b16⟩ := DataW.trod_int Tryd.underlying3 s16
    obtain ⟨g16', h16', _, b16'⟩ := DataW.trod_int Tryd.underlying3 t16
    obtain rfl : c17 = _ := by simpa using h16
    obtain rfl : c18 = _ := by simpa using h16'
    simp only [List.drop_succ_cons, List.drop_zero, List.take_succ_cons, List.take_zero] at f17
    obtain ⟨g17, h17, x17, _⟩ := DataW.trod_string Tryd.underlying9 f17
    obtain rfl : c19 = _ := by simpa using h17
    simp only [List.drop_succ_cons, List.drop_zero, List.take_succ_cons, List.take_zero] at f18
    obtain ⟨g18, h18, _, b18⟩ := DataW.trod_int Tryd.underlying3 f18
    obtain rfl : c20 = _ := by simpa using h18
    simp only [List.drop_succ_cons, List.drop_zero, List.take_succ_cons, List.take_zero] at f19
    obtain ⟨g19, h19, _, b19⟩ := DataW.trod_int Tryd.underlying3 f19
    obtain rfl : c21 = _ := by simpa using h19
    simp only [List.drop_succ_cons, List.drop_zero, List.take_succ_cons, List.take_zero] at f20
    obtain ⟨g20, h20, _, b20⟩ := DataW.trod_int Tryd.underlying3 f20
    obtain rfl : c22 = _ := by simpa using h20
    simp only [List.drop_succ_cons, List.drop_zero, List.take_succ_cons, List.take_zero] at f21
    obtain ⟨g21, h21, _, b21⟩ := DataW.trod_int Tryd.underlying3 f21
    obtain rfl : c23 = _ := by simpa using h21
    simp only [List.drop_succ_cons, List.drop_zero, List.take_succ_cons, List.take_zero] at f22
    obtain ⟨g22, h22, _, b22⟩ := DataW.trod_int Tryd.underlying3 f22
    obtain rfl : c24 = _ := by simpa using h22
    simp only [List.drop_succ_cons, List.drop_zero, List.take_succ_cons, List.take_zero] at f23
    obtain ⟨g23, h23, _⟩ := DataW.trod_bool Tryd.underlying4 f23
    obtain rfl : c25 = _ := by simpa using h23
    simp only [List.drop_succ_cons, List.drop_zero, List.take_succ_cons, List.take_zero] at f24
    obtain ⟨g24, h24, _, b24⟩ := DataW.trod_int Tryd.underlying46 f24
    obtain rfl : c26 = _ := by simpa using h24
    simp only [List.drop_succ_cons, List.drop_zero, List.take_succ_cons, List.take_zero] at f25
    obtain ⟨g25, l25, h25, K25, z25⟩ := open_labels w25 f25
    obtain rfl : c27 = _ := by simpa using h25
    simp only [List.drop_succ_cons, List.drop_zero, List.take_succ_cons, List.take_zero] at f26
    obtain ⟨g26, h26, _, b26⟩ := DataW.trod_int Tryd.underlying3 f26
    obtain rfl : c28 = _ := by simpa using h26
    simp only [List.drop_succ_cons, List.drop_zero, List.take_succ_cons, List.take_zero] at f27
    obtain ⟨g27, h27, x27, _⟩ := DataW.trod_string Tryd.underlying9 f27
    obtain rfl : c29 = _ := by simpa using h27
    simp only [List.drop_succ_cons, List.drop_zero, List.take_succ_cons, List.take_zero] at f28
    obtain ⟨g28, h28, _, b28⟩ := DataW.trod_int Tryd.underlying3 f28
    obtain rfl : c30 = _ := by simpa using h28
    simp only [List.drop_succ_cons, List.drop_zero, List.take_succ_cons, List.take_zero] at f29
    obtain ⟨g29, h29, _, b29⟩ := DataW.trod_int Tryd.underlying3 f29
    obtain rfl : c31 = _ := by simpa using h29
    refine ⟨⟨g0, g1, g2, g3, l4, g5, g5', g6, g7, g8, g9, g10, g11, g12, g13, g14, g15, g16, g16', g17, g18, g19, g20, g21, g22, g23, g24, l25, g26, g27, g28, g29⟩, c4, c27, rfl, K4, K25, ⟨?_, z4, z25⟩, ?_⟩
    · have hz : g1.data.toList.length ≤ reachBytes := w1 _ (by rw [x1]; simp [DataW.weights])
      rw [Array.length_toList] at hz
      exact hz
    · intro z hz
      simp only [Ob.ints, List.mem_cons, List.not_mem_nil, or_false] at hz
      rcases hz with rfl | rfl | rfl | rfl | rfl | rfl | rfl | rfl | rfl | rfl | rfl | rfl | rfl | rfl | rfl | rfl | rfl
      all_goals (first | exact bounds_i64 b0 | exact bounds_i64 b2 | exact bounds_i64 b3 | exact bounds_i64 b5 | exact bounds_i64 b5' | exact bounds_i64 b9 | exact bounds_i64 b13 | exact bounds_i64 b16 | exact bounds_i64 b16' | exact bounds_i64 b18 | exact bounds_i64 b19 | exact bounds_i64 b20 | exact bounds_i64 b21 | exact bounds_i64 b22 | exact bounds_i64 b26 | exact bounds_i64 b28 | exact bounds_i64 b29)
set_option maxRecDepth 100000 in
theorem open_objs {fuel : Nat} {cs : List Value} {x : DataW H × List MemPlace} (hw : ∀ n ∈ x.1.weights Tryd.prog 22, n ≤ reachBytes) (h : DataW.trod enc Tryd.prog W base spare held fuel 22 cs = some x) :
    ∃ A c l, cs = [.slice A l.length c] ∧ l.length ≤ c ∧ kO.C W A l.length l ∧ (∀ o ∈ l, ObFits o ∧ ObInts o) ∧ l.length * 312 ≤ 140737488351232 := by
  rcases Deep.open_slice Tryd.underlying22 h with ⟨hcs, hx⟩ | ⟨a, len, cap, m, n, D, Pl, hcs, hb, hl, hm, hmm, hx, hc⟩
  · subst hcs
    exact ⟨none, 0, [], rfl, Nat.le_refl _, Kd.C_nil _ _, fun o ho => absurd ho List.not_mem_nil, by simp⟩
  · subst hcs
    subst hx
    have hlm : len ≤ m := by rw [hmm]; split <;> omega
    have z : (len + (m - len)) * Tryd.prog.bytesOf 48 ≤ reachBytes := hw _ (by
      unfold DataW.weights
      rw [Tryd.underlying22]
      simp)
    rw [show Tryd.prog.bytesOf 48 = 312 by kernel_rfl] at z
    unfold reachBytes at z
    have each : ∀ i, i < len → ∃ q : Ob × Value × Value, LabK W q.1.labels q.2.1 ∧ LabK W q.1.select q.2.2 ∧ (∀ j u, (q.1.cells q.2.1 q.2.2)[j]? = some u → W.cell? (a.add (i * 32 + j)) = some u) ∧ ObFits q.1 ∧ ObInts q.1 := by
      intro i hi
      obtain ⟨cs', h1, h2⟩ := hc i (by omega)
      rw [show Tryd.prog.cellsOf 48 = 32 by kernel_rfl] at h1
      obtain ⟨_, hlen, hcell⟩ := World.cells?_some h1
      obtain ⟨o, v4, v27, rfl, k4, k27, hf, hi'⟩ := open_obj (x := (D i, Pl i)) (fun n hn => hw n (by
        unfold DataW.weights
        rw [Tryd.underlying22]
        refine List.mem_cons_of_mem _ (List.mem_append.2 (.inl ?_))
        exact weights_mem_all (j := i) (d := D i) (by simp [hi]) n hn)) h2
      refine ⟨(o, v4, v27), k4, k27, fun j u hu => ?_, hf, hi'⟩
      have hj : j < 32 := by
        have := (Array.getElem?_eq_some_iff.1 hu).1
        rwa [Ob.cells_size] at this
      have := hcell j hj
      rw [add_add] at this
      rw [this]
      simpa using hu
    haveI : Inhabited (Ob × Value × Value) := ⟨(Ob.zero, .slice none 0 0, .slice none 0 0)⟩
    obtain ⟨f, hf'⟩ := Deep.choose_lt each
    have hlen : ((List.range len).map fun i => (f i).1).length = len := by simp
    refine ⟨some a, cap, (List.range len).map fun i => (f i).1, by rw [hlen], by rw [hlen]; exact hl, ?_, ?_, by rw [hlen]; omega⟩
    · rw [hlen]
      refine ⟨hlen, by omega, fun _ => ⟨a, rfl, fun j p hj => ?_⟩⟩
      have hjl : j < len := by have := (List.getElem?_eq_some_iff.1 hj).1; rw [hlen] at this; exact this
      have hp : (f j).1 = p := by simpa [List.getElem?_range hjl] using hj
      subst hp
      obtain ⟨k4, k27, hcell, _, _⟩ := hf' j hjl
      exact ⟨((f j).1.cells (f j).2.1 (f j).2.2).toList, by rw [Array.length_toList, Ob.cells_size]; rfl, ⟨_, _, rfl, k4, k27⟩, fun i u hu => hcell i u (by simpa using hu)⟩
    · intro o ho
      obtain ⟨j, hj, rfl⟩ := List.mem_map.1 ho
      exact ⟨(hf' j (List.mem_range.1 hj)).2.2.2.1, (hf' j (List.mem_range.1 hj)).2.2.2.2⟩
theorem open_objsV {v : Value} {d : DataW H} {ps : List MemPlace} (hval : ∃ a len cap, v = .slice a len cap) (hw : ∀ n ∈ d.weights Tryd.prog 22, n ≤ reachBytes) (h : DataW.Trod enc Tryd.prog W base spare held 22 v d ps) :
    ∃ A c l, v = .slice A l.length c ∧ l.length ≤ c ∧ kO.C W A l.length l ∧ (∀ o ∈ l, ObFits o ∧ ObInts o) ∧ l.length * 312 ≤ 140737488351232 := by
  obtain ⟨a, len, cap, rfl⟩ := hval
  obtain ⟨fuel, hf⟩ := h
  obtain ⟨A, c, l, e, h1, h2, h3, h4⟩ := open_objs (x := (d, ps)) hw hf
  simp [Value.cells] at e
  obtain ⟨rfl, rfl, rfl⟩ := e
  exact ⟨_, _, l, rfl, h1, h2, h3, h4⟩
end
end Go.Proofs.YtoepbjgldmgaoaaDoor

/- flotillaref24.Victims: each object that isn't ending is put in from behind; the first ones of them. -/
namespace Go.Proofs.YtoepbjgldmgaoaaDoor
open Go.RowKit Go.Proofs.YtoepbjgldmgaoaaDoorW.PrintWords Go.Proofs.YtoepbjgldmgaoaaDoorW.PrintLast
attribute [local go_sem] Go.Proofs.YtoepbjgldmgaoaaDoorW.PrintMore.max_two Go.Proofs.YtoepbjgldmgaoaaDoorW.PrintMore.min_two
theorem lab_ne_obj {w : World} {k : Nat} (h : ∃ cells, w.heap[k]? = some (.cells cells 98 (0, 0))) (g : ∃ cells, w.heap[k]? = some (.cells cells 48 (0, 0))) : False := by
  obtain ⟨a, ha⟩ := h
  obtain ⟨b, hb⟩ := g
  rw [ha] at hb
  injection hb with hb
  injection hb with _ hb
  exact absurd hb (by decide)
theorem ref_rows {wo w4 w5 w6 : World} {base : Nat} {A5 : Option Addr} {t c5 : Nat} {acc ys : List Ob} {v8 : Value} (hR : kO.R 48 wo base (fun _ => True) (.slice A5 acc.length c5) acc) (hV : kO.R 48 w4 wo.heap.size (fun _ => True) v8 ys) (hb : Below w4.heap.size w4 w5)
    (hg : w5.grownBy w6 (Value.slice A5 t c5).ownBlock) (hbase : base ≤ wo.heap.size) :
    ∃ A c, v8 = .slice A ys.length c ∧ ReadsRow (fun x cs => kO.M w6 base (fun k => ∃ cells, w6.heap[k]? = some (.cells cells 98 (0, 0))) x cs) kO.sz w6 A ys.length ys := by
  have h5 : kO.R 48 w5 wo.heap.size (fun k => wo.heap.size ≤ k ∧ k < w5.heap.size) v8 ys := Kd.R_mono (Kd.R_bound (Kd.R_below hV hb)) (fun k hk => ⟨hk.2.1, hk.2.2.1⟩)
  have hne : ∀ k, wo.heap.size ≤ k → some k ≠ (Value.slice A5 t c5).ownBlock := fun k hk e => by
    have := Kd.R_lt hR k (by rw [e]; cases A5 <;> rfl)
    omega
  have h6 : kO.R 48 w6 wo.heap.size (fun k => wo.heap.size ≤ k ∧ k < w5.heap.size) v8 ys := Kd.R_move h5 (fun k hk => hg.block k hk.2 (hne k hk.1))
  obtain ⟨h0, inner, ho, hr⟩ := h6
  obtain ⟨A, c, e, hrow⟩ := own_reads_row ho (hr.imp_ (fun p cs hp => kO.M_mono (ok' := fun k => ∃ cells, w6.heap[k]? = some (.cells cells 98 (0, 0))) (fun k hk => by
    obtain ⟨_, _, _, q, hq, cells, hc⟩ := hk
    obtain rfl : q = 98 := by simpa [kO] using hq
    exact ⟨cells, hc⟩) (kO.M_lower hbase (kO.M_bound hp)))) rfl
  exact ⟨A, c, e, hrow⟩
def rg22_7_T : Bool × List (List Nat × List Nat) := (true, [([], []), ([0], [0]), ([1], [1]), ([2], [2]), ([2], [2]), ([3, 4, 2], [2, 3, 4]), ([5, 2], [2, 5]), ([2], [2]), ([2], [2]), ([8, 2], [2, 8]), ([7, 9, 2], [2, 7, 9]), ([10, 2], [2, 10]), ([6, 11, 2, 2], [2, 6, 11]), ([2, 12], [2, 12])])
def rg22_7_B : List Nat := [0, 1, 3, 7, 7, 31, 63, 7, 7, 263, 903, 1927, 4095, 8191]
def rg22_10_T : Bool × List (List Nat × List Nat) := (true, [([], []), ([], []), ([0, 1], [0, 1]), ([], []), ([], []), ([3, 4], [3, 4]), ([5], [5]), ([6], [6]), ([7], [7]), ([2, 8, 7], [2, 8]), ([9, 9, 0, 1, 2, 3, 4, 5, 6, 7, 8, 9], [0, 9])])
def rg22_10_B : List Nat := [0, 0, 3, 0, 0, 24, 56, 120, 248, 511, 1023]
end Go.Proofs.YtoepbjgldmgaoaaDoor

/- Book.Apart walked: what a Book holds has memory of its own. -/
namespace Go.Proofs.YtoepbjgldmgaoaaDoor
open Go.RowKit Go.Proofs.YtoepbjgldmgaoaaDoorW.PrintWords Go.Proofs.YtoepbjgldmgaoaaDoorW.PrintLast
theorem zero_ApartLabels (A : Option Addr) (c : Nat) (w : World) : Calls Tryd.prog 59 #[.slice A 0 c] w fun e w' => e = .returned (.bool true) ∧ w' = w := by
  go_enter Tryd.func59, Tryd.ntmps59
  go_wp2
  go_rounds 1
  go_rounds 1
  go_rounds 1
  go_ret
  exact ⟨rfl, rfl⟩
theorem row_of {w : World} {base : Nat} {t : TypeId} {v : Value} {V : List Value} (h : (Kd.raw 1).R t w base (fun _ => True) v (V.map fun u => [u])) (hout : ∀ k, inV V k → ∃ cells t', t' ≠ t ∧ w.heap[k]? = some (.cells cells t' (0, 0))) (hne : 0 < V.length) :
    ∃ ad c, v = .slice (some ad) V.length c ∧ RowV w ad V := by
  obtain ⟨A, c, e⟩ := Kd.R_slice h
  rw [List.length_map] at e
  have hr := h
  rw [e] at hr
  have hC := (Kd.R_reads' hr).2.2
  rw [List.length_map] at hC
  obtain ⟨u, hu⟩ : ∃ u, V[0]? = some u := ⟨_, List.getElem?_eq_getElem hne⟩
  obtain ⟨ad, rfl⟩ := rawSome hC hu
  have hb : v.ownBlock = some ad.block := by rw [e]; rfl
  refine ⟨ad, c, e, fun k x hx => rawCell hC hx, Kd.R_lt h _ hb, fun hk => ?_⟩
  obtain ⟨cells, t', hne', hh⟩ := hout _ hk
  obtain ⟨cells2, hh2⟩ := Kd.R_typed h _ hb
  rw [hh] at hh2
  injection hh2 with hh2
  injection hh2 with _ hh2
  exact hne' hh2
theorem OVs.typed {w : World} {V : List Value} {m : Nat → Nat} (h : OVs w V m) {k : Nat} (hk : inV V k) : ∃ cells, w.heap[k]? = some (.cells cells 48 (0, 0)) := by
  obtain ⟨v, hv, hb⟩ := hk
  obtain ⟨j, hj⟩ := List.mem_iff_getElem?.1 hv
  cases h.row j v hj with
  | nil => simp [Value.ownBlock] at hb
  | one b n c cur hn hx hh hs hm =>
    obtain rfl : b = k := by simpa [Value.ownBlock] using hb
    exact ⟨cur, hh⟩
theorem Bk.typed {w : World} {base : Nat} {V : List Value} {L : Nat → List Lab} (h : Bk w base V L) {k : Nat} (hk : inV V k) : ∃ cells, w.heap[k]? = some (.cells cells 98 (0, 0)) := by
  obtain ⟨v, hv, hb⟩ := hk
  obtain ⟨j, hj⟩ := List.mem_iff_getElem?.1 hv
  exact Kd.R_typed (h.row j v hj) k hb
theorem apart_types {w : World} {base : Nat} {V U : List Value} {L : Nat → List Lab} {m : Nat → Nat} (h : Bk w base V L) (g : OVs w U m) {k : Nat} (hk : inV V k) : ¬ inV U k := fun hu => lab_ne_obj (h.typed hk) (g.typed hu)
theorem Bk.only {w w1 : World} {base : Nat} {V U : List Value} {L : Nat → List Lab} {m : Nat → Nat} (h : Bk w base V L) (g : OVs w U m) (hb : OnlyB (inV U) w w1) : Bk w1 base V L :=
  ⟨fun k v hv => Kd.R_move (h.row k v hv) fun b hbk => hb.block b (Kd.R_lt (h.row k v hv) b hbk.symm) (apart_types h g ⟨v, List.mem_of_getElem? hv, hbk.symm⟩)⟩
theorem OnlyB.mono {G H : Nat → Prop} {w w1 : World} (h : OnlyB G w w1) (hg : ∀ k, G k → H k) : OnlyB H w w1 := ⟨h.os, h.tape, h.output, h.size, fun k hk hn => h.block k hk (fun e => hn (hg k e))⟩
theorem OnlyB.at_ {G : Nat → Prop} {w w1 : World} {b : Nat} {o : Obj} (h : OnlyB G w w1) (hb : w.heap[b]? = some o) (hg : ¬ G b) : w1.heap[b]? = some o := (h.block b (blkLt hb) hg).trans hb
theorem book_cell {w : World} {b : Nat} {v5 v10 : Value} (h : w.heap[b]? = some (.cells (bookC v5 v10) 39 (0, 0))) (i : Nat) {u : Value} (hu : (bookC v5 v10)[i]? = some u) : w.cell? ⟨b, i, none⟩ = some u := by rw [cell_of_row w b i _ _ _ h]; exact hu
set_option maxHeartbeats 1600000 in
set_option maxRecDepth 100000 in
theorem bookApart_calls (b base baseL : Nat) (v5 v10 : Value) (VL VO : List Value) (LS : Nat → List Lab) (w : World) (h : BookS w base b VL VO v5 v10) (hO : OVs w VO (fun _ => 0)) (haO : ApartV VO) (hNO : VO.length ≤ 1000000) (hL : Bk w baseL VL LS) (hbL : baseL ≤ w.heap.size) (haL : ApartV VL) (hNL : VL.length ≤ 1000000)
    (hlen : ∀ k, k < VL.length → (LS k).length ≤ 4398046510976) :
    Calls Tryd.prog 17 #[.pointer (some ⟨b, 0, none⟩)] w fun e w' => e = .returned (.bool true) ∧ OnlyB (fun k => inV VO k ∨ inV VL k) w w' := by
  have hbO : ¬ inV VO b := fun hk => by
    obtain ⟨c, hc⟩ := hO.typed hk
    rw [h.heap] at hc
    injection hc with hc
    injection hc with _ hc
    exact absurd hc (by decide)
  have hbV : ¬ inV VL b := fun hk => by
    obtain ⟨c, hc⟩ := hL.typed hk
    rw [h.heap] at hc
    injection hc with hc
    injection hc with _ hc
    exact absurd hc (by decide)
  have H1 : Hid (Calls Tryd.prog 52 #[v10] w fun e w' => e = .returned (.bool true) ∧ OnlyB (inV VO) w w') := Lib.hid (by
    rcases Nat.eq_zero_or_pos VO.length with e | e
    · obtain ⟨A, c, e1⟩ := Kd.R_slice h.objs
      rw [List.length_map, e] at e1
      rw [e1]
      refine (zero_apartObjects A c w).mono ?_
      rintro e w1 ⟨rfl, rfl⟩
      exact ⟨rfl, OnlyB.refl _ _⟩
    · obtain ⟨ad, c, rfl, hrow⟩ := row_of h.objs (fun k hk => by
        obtain ⟨cells, hc⟩ := hO.typed hk
        exact ⟨cells, _, by decide, hc⟩) e
      exact apartObjects_calls ad c VO.length VO w rfl hNO hrow hO haO)
  have H2 : Hid (∀ w1, OnlyB (inV VO) w w1 → Calls Tryd.prog 59 #[v5] w1 fun e w' => e = .returned (.bool true) ∧ OnlyB (inV VL) w1 w') := Lib.hid (fun w1 hw1 => by
    rcases Nat.eq_zero_or_pos VL.length with e | e
    · obtain ⟨A, c, e1⟩ := Kd.R_slice h.labs
      rw [List.length_map, e] at e1
      rw [e1]
      refine (zero_ApartLabels A c w1).mono ?_
      rintro e w1 ⟨rfl, rfl⟩
      exact ⟨rfl, OnlyB.refl _ _⟩
    · obtain ⟨ad, c, rfl, hrow⟩ := row_of h.labs (fun k hk => by
        obtain ⟨cells, hc⟩ := hL.typed hk
        exact ⟨cells, _, by decide, hc⟩) e
      have hb1 := hL.only hO hw1
      have ht : ¬ inV VO ad.block := fun hk => by
        obtain ⟨c1, hc1⟩ := hO.typed hk
        obtain ⟨c2, hc2⟩ := Kd.R_typed h.labs ad.block rfl
        rw [hc1] at hc2
        injection hc2 with hc2
        injection hc2 with _ hc2
        exact absurd hc2 (by decide)
      have hrow1 : RowV w1 ad VL := ⟨fun k v hv => (cell_same (w := w) (w' := w1) (a := ad.add k) (by rw [add_block]; exact hw1.block _ hrow.here ht)).trans (hrow.cells k v hv), Nat.lt_of_lt_of_le hrow.here hw1.size, hrow.out⟩
      exact apartLabels_calls ad c VL.length VL LS w1 baseL rfl hNL (Nat.le_trans hbL hw1.size) hrow1 hb1 haL hlen)
  have c10 := book_cell h.heap 10 (u := v10) rfl
  have hh := Lib.hid h.heap
  have hB := Lib.hid (And.intro hbO hbV)
  clear h hO haO hL haL hbO hbV hlen
  go_enter Tryd.func17, Tryd.ntmps17
  go_wp2_with (first
    | (go_at_call 52; (with_reducible refine H1.out.mono ?_); rintro e w1 ⟨rfl, hO1⟩; have hh1 := hO1.at_ hh.out hB.out.1; have d0 := book_cell hh1 0 (u := .slice none 0 0) rfl; have d1 := book_cell hh1 1 (u := .slice none 0 0) rfl; have d2 := book_cell hh1 2 (u := .slice none 0 0) rfl; have d3 := book_cell hh1 3 (u := .slice none 0 0) rfl; have d4 := book_cell hh1 4 (u := .slice none 0 0) rfl; have d5 := book_cell hh1 5 (u := v5) rfl; have d11 := book_cell hh1 11 (u := .slice none 0 0) rfl; have HO1 := Lib.hid (And.intro hO1 hh1); clear hO1 hh1)
    | (go_at_call 53; (with_reducible refine (nil_apartOps _).mono ?_); rintro e w0 ⟨rfl, rfl⟩)
    | (go_at_call 54; (with_reducible refine (nil_ApartBytes _).mono ?_); rintro e w0 ⟨rfl, rfl⟩)
    | (go_at_call 55; (with_reducible refine (nil_ApartTexts _).mono ?_); rintro e w0 ⟨rfl, rfl⟩)
    | (go_at_call 56; (with_reducible refine (nil_ApartInts _).mono ?_); rintro e w0 ⟨rfl, rfl⟩)
    | (go_at_call 57; (with_reducible refine (nil_ApartNumbers _).mono ?_); rintro e w0 ⟨rfl, rfl⟩)
    | (go_at_call 58; (with_reducible refine (nil_ApartBools _).mono ?_); rintro e w0 ⟨rfl, rfl⟩)
    | (go_at_call 59; (with_reducible refine (H2.out _ HO1.out.1).mono ?_); rintro e w2 ⟨rfl, hO2⟩; have hh2 := hO2.at_ HO1.out.2 hB.out.2; have e6 := book_cell hh2 6 (u := .slice none 0 0) rfl; have e7 := book_cell hh2 7 (u := .slice none 0 0) rfl; have e8 := book_cell hh2 8 (u := .slice none 0 0) rfl; have e9 := book_cell hh2 9 (u := .slice none 0 0) rfl; have HO2 := Lib.hid ((HO1.out.1.mono (H := fun k => inV VO k ∨ inV VL k) (fun _ => Or.inl)).trans (hO2.mono (fun _ => Or.inr))); clear hO2 hh2)
    | (go_at_call 60; (with_reducible refine (nil_ApartKeys _).mono ?_); rintro e w0 ⟨rfl, rfl⟩)
    | (go_at_call 61; (with_reducible refine (nil_ApartConds _).mono ?_); rintro e w0 ⟨rfl, rfl⟩)
    | (go_at_call 62; (with_reducible refine (nil_ApartAmounts _).mono ?_); rintro e w0 ⟨rfl, rfl⟩)
    | (go_at_call 63; (with_reducible refine (nil_ApartProbes _).mono ?_); rintro e w0 ⟨rfl, rfl⟩))
  go_ret
  exact ⟨rfl, HO2.out⟩
end Go.Proofs.YtoepbjgldmgaoaaDoor

/- Objects of the call's own: what they and the lists within them are, for a Book. -/
namespace Go.Proofs.YtoepbjgldmgaoaaDoor
open Go.RowKit Go.Proofs.YtoepbjgldmgaoaaDoorW.PrintWords Go.Proofs.YtoepbjgldmgaoaaDoorW.PrintLast
theorem list_of {β : Type} (P : Nat → β → Prop) : ∀ n : Nat, (∀ i, i < n → ∃ t, P i t) → ∃ T : List β, T.length = n ∧ ∀ i t, T[i]? = some t → P i t
  | 0, _ => ⟨[], rfl, fun i t h => by simp at h⟩
  | n + 1, h => by
    obtain ⟨T, hl, hT⟩ := list_of P n (fun i hi => h i (by omega))
    obtain ⟨t, ht⟩ := h n (Nat.lt_succ_self n)
    refine ⟨T ++ [t], by simp [hl], fun i u hu => ?_⟩
    rcases Nat.lt_or_ge i T.length with h1 | h1
    · rw [List.getElem?_append_left h1] at hu
      exact hT i u hu
    · rw [List.getElem?_append_right h1] at hu
      have e : i - T.length = 0 := by
        have := (List.getElem?_eq_some_iff.1 hu).1
        simp at this
        omega
      rw [e] at hu
      obtain rfl : t = u := by simpa using hu
      obtain rfl : i = n := by omega
      exact ht
structure LabsR (w : World) (base : Nat) (P : List (Value × List Lab)) : Prop where
  row : ∀ p ∈ P, kL.R 98 w base (fun b => some b = p.1.ownBlock) p.1 p.2
  apart : P.Pairwise fun p q => ∀ b, p.1.ownBlock = some b → q.1.ownBlock ≠ some b
theorem LabsR.nil (w : World) (base : Nat) : LabsR w base [] := ⟨fun p hp => (List.not_mem_nil hp).elim, List.Pairwise.nil⟩
theorem LabsR.below {w w1 : World} {base : Nat} {P : List (Value × List Lab)} (h : LabsR w base P) (hb : Below w.heap.size w w1) : LabsR w1 base P := ⟨fun p hp => Kd.R_below (h.row p hp) hb, h.apart⟩
theorem LabsR.lower {w : World} {base base' : Nat} {P : List (Value × List Lab)} (h : LabsR w base P) (hb : base' ≤ base) : LabsR w base' P := ⟨fun p hp => Kd.R_lower (h.row p hp) hb, h.apart⟩
theorem LabsR.append {w : World} {base B : Nat} {P Q : List (Value × List Lab)} (h : LabsR w base P) (g : LabsR w B Q) (hB : base ≤ B) (hlt : ∀ p ∈ P, ∀ b, p.1.ownBlock = some b → b < B) : LabsR w base (P ++ Q) :=
  ⟨fun p hp => (List.mem_append.1 hp).elim (h.row p) (fun hq => Kd.R_lower (g.row p hq) hB), List.pairwise_append.2 ⟨h.apart, g.apart, fun p hp q hq b hb e => by
    have h1 := hlt p hp b hb
    have h2 := Kd.R_base (g.row q hq) b e
    omega⟩⟩
theorem LabsR.lt {w : World} {base : Nat} {P : List (Value × List Lab)} (h : LabsR w base P) : ∀ p ∈ P, ∀ b, p.1.ownBlock = some b → b < w.heap.size := fun p hp b hb => Kd.R_lt (h.row p hp) b hb
theorem LabsR.bk {w : World} {base : Nat} {P : List (Value × List Lab)} (h : LabsR w base P) : Bk w base (P.map (·.1)) (fun k => ((P[k]?).map (·.2)).getD []) := by
  refine ⟨fun k v hv => ?_⟩
  rw [List.getElem?_map] at hv
  obtain ⟨p, hp, rfl⟩ := Option.map_eq_some_iff.1 hv
  simp only [hp, Option.map_some, Option.getD_some]
  exact h.row p (List.mem_of_getElem? hp)
theorem apartV_of {V : List Value} (h : V.Pairwise fun v u => ∀ b, v.ownBlock = some b → u.ownBlock ≠ some b) : ApartV V := by
  intro j k v u hjk hj hk b hb hu
  have h0 := List.pairwise_iff_getElem.1 h
  obtain ⟨hj1, hj2⟩ := List.getElem?_eq_some_iff.1 hj
  obtain ⟨hk1, hk2⟩ := List.getElem?_eq_some_iff.1 hk
  rcases Nat.lt_or_gt_of_ne hjk with h1 | h1
  · exact h0 j k hj1 hk1 h1 b (by rw [hj2]; exact hb) (by rw [hk2]; exact hu)
  · exact h0 k j hk1 hj1 h1 b (by rw [hk2]; exact hu) (by rw [hj2]; exact hb)
theorem LabsR.apartV {w : World} {base : Nat} {P : List (Value × List Lab)} (h : LabsR w base P) : ApartV (P.map (·.1)) := apartV_of (List.pairwise_map.2 h.apart)
def labP (T : List (Ob × Value × Value)) : List (Value × List Lab) := T.flatMap fun t => [(t.2.1, t.1.labels), (t.2.2, t.1.select)]
theorem labP_fst (T : List (Ob × Value × Value)) : (labP T).map (·.1) = labsOf T := by
  unfold labP labsOf
  rw [List.map_flatMap]
  rfl
theorem labP_snd {T : List (Ob × Value × Value)} (hf : ∀ t ∈ T, ObFits t.1) : ∀ p ∈ labP T, p.2.length ≤ 4398046510976 := by
  intro p hp
  obtain ⟨t, ht, hp⟩ := List.mem_flatMap.1 hp
  have := hf t ht
  simp only [List.mem_cons, List.not_mem_nil, or_false] at hp
  rcases hp with rfl | rfl
  · exact this.2.1
  · exact this.2.2
structure Obs (w : World) (base : Nat) (A : Option Addr) (k c : Nat) (xs : List Ob) (T : List (Ob × Value × Value)) : Prop where
  fst : T.map (·.1) = xs
  len : T.length = k
  le : k ≤ c
  tab : TabAt w A T
  labs : LabsR w base (labP T)
  ov : ∀ j c2, k ≤ c2 → c2 ≤ c → OV w j 0 (.slice A k c2)
  blk : ∀ ad, A = some ad → base ≤ ad.block ∧ ad.block < w.heap.size
theorem obs_of_S {w : World} {base : Nat} {ok : Nat → Prop} {A : Option Addr} {k c : Nat} {xs : List Ob} (h : Kd.S kO 48 w base ok (.slice A k c) xs) : ∃ T, Obs w base A k c xs T := by
  have hS := h
  obtain ⟨f, h0, hrow⟩ := h
  obtain ⟨A', c', e, hkc, hr⟩ := OwnRow.reads hrow
  rw [List.length_zipIdx] at e hkc hr
  injection e with e1 e2 e3
  subst e1
  subst e2
  subst e3
  obtain ⟨T, hTl, hT⟩ := list_of (fun i (t : Ob × Value × Value) => xs[i]? = some t.1 ∧ (∃ ad, A = some ad ∧ ∀ (j : Nat) (u : Value), (t.1.cells t.2.1 t.2.2)[j]? = some u → w.cell? (ad.add (i * 32 + j)) = some u) ∧
      kL.R 98 w base (fun b => f b = i ∧ some b ≠ t.2.2.ownBlock) t.2.1 t.1.labels ∧ kL.R 98 w base (fun b => f b = i ∧ some b ≠ t.2.1.ownBlock) t.2.2 t.1.select) xs.length (fun i hi => by
    obtain ⟨o, ho⟩ : ∃ o, xs[i]? = some o := ⟨_, List.getElem?_eq_getElem hi⟩
    obtain ⟨ad, e, hc⟩ := hr.2.2 (by omega)
    obtain ⟨cs, hs, ⟨v4, v27, rfl, h4, h27⟩, hcell⟩ := hc i (o, i) (Kd.zip_at ho)
    exact ⟨(o, v4, v27), ho, ⟨ad, e, fun j u hu => hcell j u (by simpa using hu)⟩, Kd.R_mono h4 (fun b hb => ⟨hb.1.2, hb.2⟩), Kd.R_mono h27 (fun b hb => ⟨hb.1.2, hb.2⟩)⟩)
  have hrows : ∀ t ∈ T, ∃ i, kL.R 98 w base (fun b => f b = i ∧ some b ≠ t.2.2.ownBlock) t.2.1 t.1.labels ∧ kL.R 98 w base (fun b => f b = i ∧ some b ≠ t.2.1.ownBlock) t.2.2 t.1.select := fun t ht => by
    obtain ⟨i, hi⟩ := List.mem_iff_getElem?.1 ht
    exact ⟨i, (hT i t hi).2.2⟩
  refine ⟨T, ?_, hTl, hkc, ⟨fun i o u4 u27 hi => (hT i _ hi).2.1, fun t ht => ?_⟩, ⟨fun p hp => ?_, ?_⟩, ?_, fun ad e => ?_⟩
  · apply List.ext_getElem?
    intro i
    rw [List.getElem?_map]
    rcases Nat.lt_or_ge i T.length with h1 | h1
    · obtain ⟨t, ht⟩ : ∃ t, T[i]? = some t := ⟨_, List.getElem?_eq_getElem h1⟩
      rw [ht, (hT i t ht).1]
      rfl
    · rw [List.getElem?_eq_none h1, List.getElem?_eq_none (by omega)]
      rfl
  · obtain ⟨i, h4, h27⟩ := hrows t ht
    obtain ⟨A4, c4, e4⟩ := Kd.R_slice h4
    obtain ⟨A27, c27, e27⟩ := Kd.R_slice h27
    rw [e4, e27]
    exact ⟨⟨rfl, rfl⟩, ⟨rfl, rfl⟩⟩
  · obtain ⟨t, ht, hp⟩ := List.mem_flatMap.1 hp
    obtain ⟨i, h4, h27⟩ := hrows t ht
    simp only [List.mem_cons, List.not_mem_nil, or_false] at hp
    rcases hp with rfl | rfl
    · exact Kd.R_tight rfl h4
    · exact Kd.R_tight rfl h27
  · refine List.pairwise_flatMap.2 ⟨fun t ht => ?_, ?_⟩
    · obtain ⟨i, h4, h27⟩ := hrows t ht
      refine List.pairwise_pair.2 (fun b hb e => ?_)
      exact (h4.1 b hb).2 e.symm
    · refine List.pairwise_iff_getElem.2 (fun i j hi hj hij p hp q hq b hb e => ?_)
      obtain ⟨_, _, h4, h27⟩ := hT i _ (List.getElem?_eq_getElem hi)
      obtain ⟨_, _, g4, g27⟩ := hT j _ (List.getElem?_eq_getElem hj)
      have e1 : f b = i := by
        simp only [List.mem_cons, List.not_mem_nil, or_false] at hp
        rcases hp with rfl | rfl
        · exact (h4.1 b hb).1
        · exact (h27.1 b hb).1
      have e2 : f b = j := by
        simp only [List.mem_cons, List.not_mem_nil, or_false] at hq
        rcases hq with rfl | rfl
        · exact (g4.1 b e).1
        · exact (g27.1 b e).1
      omega
  · intro j c2 hc1 hc2
    obtain ⟨inner, hown, _⟩ := hrow
    rcases hown.2 with ⟨he, hn⟩ | ⟨g, cap, cur, he, hbg, hh, hnc, hcm, hcs, htake⟩
    · injection he with h1 h2 h3
      subst h1
      obtain rfl : c2 = 0 := by omega
      rw [h2]
      exact OV.nil
    · injection he with h1 h2 h3
      subst h1
      rw [h2]
      refine OV.one g _ c2 cur (by omega) (by simp only [maxLen] at hcm; omega) hh (by have hsz : kO.sz = 32 := rfl; have hsz2 : (Kd.tag f kO).sz = 32 := rfl; rw [hsz2] at hcs; omega) (fun i hi => absurd hi (Nat.not_lt_zero i))
  · subst e
    exact ⟨Kd.S_base hS _ rfl, Kd.S_lt hS _ rfl⟩
theorem Obs.below {w w1 : World} {base : Nat} {A : Option Addr} {k c : Nat} {xs : List Ob} {T : List (Ob × Value × Value)} (h : Obs w base A k c xs T) (hb : Below w.heap.size w w1) : Obs w1 base A k c xs T :=
  ⟨h.fst, h.len, h.le, h.tab.below (fun ad e => (h.blk ad e).2) hb, h.labs.below hb, fun j c2 h1 h2 => (h.ov j c2 h1 h2).below hb, fun ad e => ⟨(h.blk ad e).1, Nat.lt_of_lt_of_le (h.blk ad e).2 hb.size⟩⟩
theorem Obs.fits {w : World} {base : Nat} {A : Option Addr} {k c : Nat} {xs : List Ob} {T : List (Ob × Value × Value)} (h : Obs w base A k c xs T) (hf : ∀ o ∈ xs, ObFits o) : ∀ t ∈ T, ObFits t.1 := fun t ht => hf t.1 (by rw [← h.fst]; exact List.mem_map_of_mem ht)
theorem Obs.own {w : World} {base : Nat} {A : Option Addr} {k c c2 : Nat} {xs : List Ob} {T : List (Ob × Value × Value)} (h : Obs w base A k c xs T) : ∀ b, (Value.slice A k c2).ownBlock = some b → base ≤ b ∧ b < w.heap.size := fun b hb => by
  cases A with
  | none => simp [Value.ownBlock] at hb
  | some ad =>
    obtain rfl : ad.block = b := by simpa [Value.ownBlock] using hb
    exact h.blk ad rfl
theorem book_new {w : World} {b : Nat} (h : w.heap[b]? = some (.cells (bookC nilV nilV) 39 (0, 0))) (base : Nat) (hb : base ≤ b) : BookS w base b [] [] nilV nilV := ⟨h, hb, Kd.R_nil _ _ _ _ _, Kd.R_nil _ _ _ _ _⟩
end Go.Proofs.YtoepbjgldmgaoaaDoor

/- Two lists of objects that were handed out, in a Book: Apart tells true, and writes over nothing else. -/
namespace Go.Proofs.YtoepbjgldmgaoaaDoor
open Go.RowKit Go.Proofs.YtoepbjgldmgaoaaDoorW.PrintWords Go.Proofs.YtoepbjgldmgaoaaDoorW.PrintLast
structure ObsLt (B : Nat) (A : Option Addr) (T : List (Ob × Value × Value)) : Prop where
  blk : ∀ ad, A = some ad → ad.block < B
  labs : ∀ p ∈ labP T, ∀ b, p.1.ownBlock = some b → b < B
theorem Obs.lt {w : World} {base : Nat} {A : Option Addr} {k c : Nat} {xs : List Ob} {T : List (Ob × Value × Value)} (h : Obs w base A k c xs T) : ObsLt w.heap.size A T := ⟨fun ad e => (h.blk ad e).2, h.labs.lt⟩
theorem ObsLt.mono {B B' : Nat} {A : Option Addr} {T : List (Ob × Value × Value)} (h : ObsLt B A T) (hb : B ≤ B') : ObsLt B' A T := ⟨fun ad e => Nat.lt_of_lt_of_le (h.blk ad e) hb, fun p hp b e => Nat.lt_of_lt_of_le (h.labs p hp b e) hb⟩
theorem own_of {A : Option Addr} {k c b : Nat} (h : (Value.slice A k c).ownBlock = some b) : ∃ ad, A = some ad ∧ ad.block = b := by
  cases A with
  | none => simp [Value.ownBlock] at h
  | some ad => exact ⟨ad, rfl, by simpa [Value.ownBlock] using h⟩
theorem apart_two {w : World} {B1 B2 base b k k' c2 c3 d2 d3 : Nat} {A2 A3 : Option Addr} {T2 T3 : List (Ob × Value × Value)} {xs ys : List Ob} {v5 v10 : Value} (h : BookS w base b ([] ++ labsOf T2 ++ labsOf T3) ([] ++ [.slice A2 k d2] ++ [.slice A3 k' d3]) v5 v10)
    (h2 : Obs w B1 A2 k c2 xs T2) (h3 : Obs w B2 A3 k' c3 ys T3) (hd2 : k ≤ d2 ∧ d2 ≤ c2) (hd3 : k' ≤ d3 ∧ d3 ≤ c3) (hlt : ObsLt B2 A2 T2) (hB : B1 ≤ B2) (hk : k ≤ 200000) (hk' : k' ≤ 200000) (hf2 : ∀ o ∈ xs, ObFits o) (hf3 : ∀ o ∈ ys, ObFits o) (hsz : B1 ≤ w.heap.size) :
    Calls Tryd.prog 17 #[.pointer (some ⟨b, 0, none⟩)] w fun e w' => e = .returned (.bool true) ∧ OnlyB (fun k => B1 ≤ k) w w' := by
  have hL : LabsR w B1 (labP T2 ++ labP T3) := h2.labs.append h3.labs hB hlt.labs
  have hmap : (labP T2 ++ labP T3).map (·.1) = [] ++ labsOf T2 ++ labsOf T3 := by rw [List.map_append, labP_fst, labP_fst]; rfl
  have hbk := hL.bk
  have hav := hL.apartV
  rw [hmap] at hbk hav
  have hO : OVs w ([] ++ [.slice A2 k d2] ++ [.slice A3 k' d3]) (fun _ => 0) := ⟨fun j v hv => by
    match j, hv with
    | 0, hv =>
      obtain rfl : Value.slice A2 k d2 = v := by simpa using hv
      exact h2.ov 0 d2 hd2.1 hd2.2
    | 1, hv =>
      obtain rfl : Value.slice A3 k' d3 = v := by simpa using hv
      exact h3.ov 1 d3 hd3.1 hd3.2
    | j + 2, hv => simp at hv⟩
  have haO : ApartV ([] ++ [.slice A2 k d2] ++ [.slice A3 k' d3]) := apartV_of (List.pairwise_pair.2 (fun g hg e => by
    obtain ⟨ad, e1, e2⟩ := own_of hg
    have h4 := hlt.blk ad e1
    have h5 := (h3.own g e).1
    omega))
  have hlen : ∀ j, j < ([] ++ labsOf T2 ++ labsOf T3).length → ((((labP T2 ++ labP T3)[j]?).map (·.2)).getD []).length ≤ 4398046510976 := fun j _ => by
    cases hp : (labP T2 ++ labP T3)[j]? with
    | none => simp
    | some p =>
      rcases List.mem_append.1 (List.mem_of_getElem? hp) with hm | hm
      · exact labP_snd (h2.fits hf2) p hm
      · exact labP_snd (h3.fits hf3) p hm
  have hNL : ([] ++ labsOf T2 ++ labsOf T3).length ≤ 1000000 := by
    rw [List.nil_append, List.length_append, labsOf_len, labsOf_len, h2.len, h3.len]
    omega
  refine (bookApart_calls b base B1 v5 v10 _ _ _ w h hO haO (by simp) hbk hsz hav hNL hlen).mono ?_
  rintro e w1 ⟨rfl, hb⟩
  refine ⟨rfl, hb.mono fun g hg => ?_⟩
  rcases hg with ⟨v, hv, e⟩ | ⟨v, hv, e⟩
  · simp only [List.nil_append, List.mem_append, List.mem_singleton] at hv
    rcases hv with rfl | rfl
    · exact (h2.own g e).1
    · exact Nat.le_trans hB (h3.own g e).1
  · obtain ⟨j, hj⟩ := List.mem_iff_getElem?.1 hv
    exact Kd.R_base (hbk.row j v hj) g e
theorem book_first {w : World} {base : Nat} {B1 k c2 d2 : Nat} {A2 : Option Addr} {T2 : List (Ob × Value × Value)} {xs : List Ob} (hbk : w.heap[base]? = some (.cells (bookC nilV nilV) 39 (0, 0))) (h2 : Obs w B1 A2 k c2 xs T2) (hlt : ObsLt base A2 T2) (hk : k ≤ 200000) :
    Calls Tryd.prog 16 #[.pointer (some ⟨base, 0, none⟩), .slice A2 k d2] w fun e w' => e = .returned undef ∧ (∃ v5' v10', BookS w' base base ([] ++ labsOf T2) ([] ++ [.slice A2 k d2]) v5' v10') ∧ Below base w w' :=
  bookObjects_calls base base A2 k d2 T2 nilV nilV w [] [] h2.len h2.tab hlt.blk (book_new hbk base (Nat.le_refl _)) (by simp; omega) (by simp) (Nat.le_of_lt (blkLt hbk))
theorem book_more {w : World} {base b : Nat} {B1 k c2 d2 : Nat} {A2 : Option Addr} {T2 : List (Ob × Value × Value)} {xs : List Ob} {VL VO : List Value} {v5 v10 : Value} (hb : BookS w base b VL VO v5 v10) (h2 : Obs w B1 A2 k c2 xs T2) (hlt : ObsLt base A2 T2) (hk : k ≤ 200000) (hVL : VL.length ≤ 8000000) (hVO : VO.length ≤ 1000) :
    Calls Tryd.prog 16 #[.pointer (some ⟨b, 0, none⟩), .slice A2 k d2] w fun e w' => e = .returned undef ∧ (∃ v5' v10', BookS w' base b (VL ++ labsOf T2) (VO ++ [.slice A2 k d2]) v5' v10') ∧ Below base w w' :=
  bookObjects_calls b base A2 k d2 T2 v5 v10 w VL VO h2.len h2.tab hlt.blk hb (by omega) (by omega) (Nat.le_trans hb.old (Nat.le_of_lt (blkLt hb.heap)))
structure TwoF (w7 : World) (base B1 B2 : Nat) (A2 A3 : Option Addr) (k c2 c3 : Nat) (xs ys : List Ob) (T2 T3 : List (Ob × Value × Value)) : Prop where
  bk : w7.heap[base]? = some (.cells (bookC nilV nilV) 39 (0, 0))
  one : Obs w7 B1 A2 k c2 xs T2
  two : Obs w7 B2 A3 k c3 ys T3
  lt1 : ObsLt base A2 T2
  lt2 : ObsLt base A3 T3
  lt : ObsLt B2 A2 T2
  le : B1 ≤ B2
  le2 : B2 ≤ base
theorem two_facts {w1 w2 w3 w6 w7 : World} {A2 A3 : Option Addr} {k c2 c3 : Nat} {xs ys : List Ob} {T2 T3 : List (Ob × Value × Value)} (h2 : Obs w2 w1.heap.size A2 k c2 xs T2) (h3 : Obs w3 w2.heap.size A3 k c3 ys T3) (hb2 : Below w1.heap.size w1 w2) (hb3 : Below w2.heap.size w2 w3) (hb6 : Below w3.heap.size w3 w6)
    (hw7 : w7 = w6.alloc (.cells (bookC nilV nilV) 39)) : TwoF w7 w6.heap.size w1.heap.size w2.heap.size A2 A3 k c2 c3 xs ys T2 T3 := by
  have hb7 : Below w6.heap.size w6 w7 := by rw [hw7]; exact below_alloc (Below.refl _ _) _
  have h37 : Below w3.heap.size w3 w7 := belT hb6 hb7
  exact ⟨by rw [hw7]; exact heap_alloc_new _ _, h2.below (belT hb3 h37), h3.below h37, h2.lt.mono (Nat.le_trans hb3.size hb6.size), h3.lt.mono hb6.size, h2.lt, hb2.size, Nat.le_trans hb3.size hb6.size⟩
theorem Obs.keep {w w1 : World} {base B : Nat} {A : Option Addr} {k c : Nat} {xs : List Ob} {T : List (Ob × Value × Value)} (h : Obs w base A k c xs T) (hlt : ObsLt B A T) (hb : Below B w w1) : Obs w1 base A k c xs T :=
  ⟨h.fst, h.len, h.le, h.tab.below hlt.blk hb, ⟨fun p hp => Kd.R_move (h.labs.row p hp) (fun b e => hb.block b (hlt.labs p hp b e.symm)), h.labs.apart⟩, fun j c2 h1 h2 => (h.ov j c2 h1 h2).keep (fun b e _ => by
    obtain ⟨ad, e1, e2⟩ := own_of e
    exact hb.block b (e2 ▸ hlt.blk ad e1)), fun ad e => ⟨(h.blk ad e).1, Nat.lt_of_lt_of_le (h.blk ad e).2 hb.size⟩⟩
theorem two_len {w : World} {B k c : Nat} {A : Option Addr} {xs : List Ob} {T : List (Ob × Value × Value)} (h : Obs w B A k c xs T) (hk : k ≤ 200000) : ([] ++ labsOf T).length ≤ 8000000 := by
  rw [List.nil_append, labsOf_len, h.len]
  omega
theorem chain_size {w7 w8 w9 : World} {base B1 B2 : Nat} {o : Obj} (h1 : B1 ≤ B2) (h2 : B2 ≤ base) (h8 : Below base w7 w8) (h9 : Below base w8 w9) (h7 : w7.heap[base]? = some o) : B1 ≤ w9.heap.size := by
  have a := blkLt h7
  have b := h8.size
  have c := h9.size
  omega
theorem chain_below {w1 w2 w3 w6 w7 w8 w9 w10 : World} {A2 A3 : Option Addr} {k c2 c3 : Nat} {xs ys : List Ob} {T2 T3 : List (Ob × Value × Value)} (hb2 : Below w1.heap.size w1 w2) (hb3 : Below w2.heap.size w2 w3) (hb6 : Below w3.heap.size w3 w6) (h7 : TwoF w7 w6.heap.size w1.heap.size w2.heap.size A2 A3 k c2 c3 xs ys T2 T3)
    (hb7 : Below w6.heap.size w6 w7) (h8 : Below w6.heap.size w7 w8) (h9 : Below w6.heap.size w8 w9) (h10 : OnlyB (fun k => w1.heap.size ≤ k) w9 w10) : Below w1.heap.size w1 w10 := by
  have h16 := belT (belT hb2 hb3) hb6
  have h19 := h16.trans (((hb7.trans h8).trans h9).mono h16.size)
  exact OnlyB.below h19 h10 (fun k hk => hk) h19.size
theorem same_n {A B : Option Addr} {l : List Ob} {k c d : Nat} {w : World} (hr : kO.C w A k l) (hs : kO.C w B k l) (hl : l.length = k) (hn : k ≤ 1000000) :
    Calls Tryd.prog 15 #[.slice A k c, .slice B k d] w fun e w' => e = .returned (.bool true) ∧ Below w.heap.size w w' := by
  subst hl
  refine (sameObjects_calls A B l l c d w hr hs hn).mono ?_
  rintro e w1 ⟨rfl, hb⟩
  exact ⟨by simp, hb⟩
end Go.Proofs.YtoepbjgldmgaoaaDoor

/- Objects that were lent: are they as they were? -/
namespace Go.Proofs.YtoepbjgldmgaoaaDoor
open Go.RowKit Go.Proofs.YtoepbjgldmgaoaaDoorW.PrintWords Go.Proofs.YtoepbjgldmgaoaaDoorW.PrintLast
set_option maxRecDepth 100000 in
set_option maxHeartbeats 1000000 in
theorem keptObject_calls (o : Ob) (v4 v27 u4 u27 : Value) (w : World) (l4 : LentK w o.labels v4) (l27 : LentK w o.select v27) (m4 : LabK w o.labels u4) (m27 : LabK w o.select u27) (hf : ObFits o) :
    Calls Tryd.prog 64 #[.agg (o.cells v4 v27), .agg (o.cells u4 u27)] w fun e w' => e = .returned (.bool true) ∧ Below w.heap.size w w' := by
  obtain ⟨cs, hcs⟩ : ∃ cs, cs = o.cells v4 v27 := ⟨_, rfl⟩
  obtain ⟨ds, hds⟩ : ∃ ds, ds = o.cells u4 u27 := ⟨_, rfl⟩
  have QB := Lib.hid (fun (W : World) (hW : Below w.heap.size w W) => sameObject_calls o o v4 v27 u4 u27 W (l4.below hW).lab (l27.below hW).lab (m4.below hW) (m27.below hW))
  rw [(sameB_iff o o).2 rfl] at QB
  rw [← hcs, ← hds] at QB ⊢
  have QL4 := Lib.hid (fun (W : World) (hW : Below w.heap.size w W) => keptLabels_calls (l4.below hW) (m4.below hW) hf.2.1)
  have QL27 := Lib.hid (fun (W : World) (hW : Below w.heap.size w W) => keptLabels_calls (l27.below hW) (m27.below hW) hf.2.2)
  have Hcs := Lib.hid hcs
  have Hds := Lib.hid hds
  have hi1 : Hid ((Tryd.prog.info? 48).map (·.size) = some cs.size) := Lib.hid (by rw [hcs, Ob.cells_size]; kernel_rfl)
  have hi2 : Hid ((Tryd.prog.info? 48).map (·.size) = some ds.size) := Lib.hid (by rw [hds, Ob.cells_size]; kernel_rfl)
  clear hcs hds l4 l27 m4 m27 hf
  have HM := Lib.hid (Eq.refl 0)
  go_enter Tryd.func64, Tryd.ntmps64
  go_wp2_with (first
    | ((with_reducible refine gate_ (.load 48 (.tmp 2)) rfl ?_); clear HM; (have HW : Below w.heap.size w ((w.alloc (Obj.cells cs 48)).alloc (Obj.cells ds 48)) := (Go.Joins.below_alloc2 w _ _)); (have B1 : ((w.alloc (Obj.cells cs 48)).alloc (Obj.cells ds 48)).heap[w.heap.size]? = some (.cells cs 48 (0, 0)) := (heap_alloc_old _ _ (by simp)).trans (heap_alloc_new w _)); (have B2 : ((w.alloc (Obj.cells cs 48)).alloc (Obj.cells ds 48)).heap[w.heap.size + 1]? = some (.cells ds 48 (0, 0)) := heap_alloc2_new w _ _); (generalize ((w.alloc (Obj.cells cs 48)).alloc (Obj.cells ds 48)) = W0 at HW B1 B2 ⊢); obtain ⟨ga, hga⟩ : ∃ x, x = w.heap.size := ⟨_, rfl⟩; obtain ⟨gb, hgb⟩ : ∃ x, x = w.heap.size + 1 := ⟨_, rfl⟩; rw [← hgb] at B2 ⊢; rw [← hga] at B1 ⊢; clear hga hgb)
    | ((with_reducible refine wpList_load_blk_w 48 (.tmp 2) rfl ga 48 ?l0 ?l1 cs _ ?l2 Tryd.underlying48 ?l3 ?l4 ?_); (case l0 => rfl); (case l1 => rfl); (case l2 => exact B1); (case l3 => rfl); (case l4 => exact hi1.out))
    | ((with_reducible refine wpList_load_blk_w 48 (.tmp 3) rfl gb 48 ?l0 ?l1 ds _ ?l2 Tryd.underlying48 ?l3 ?l4 ?_); (case l0 => rfl); (case l1 => rfl); (case l2 => exact B2); (case l3 => rfl); (case l4 => exact hi2.out))
    | ((with_reducible refine gate_ (.load 43 _) rfl ?_); first | refine wpList_load1_w 43 _ rfl ⟨ga, 4, none⟩ rfl rfl v4 _ (((cell_of_row _ _ 4 _ _ _ B1).trans (by rw [Hcs.out]; rfl))) Tryd.underlying43 rfl ?_ | refine wpList_load1_w 43 _ rfl ⟨ga, 27, none⟩ rfl rfl v27 _ (((cell_of_row _ _ 27 _ _ _ B1).trans (by rw [Hcs.out]; rfl))) Tryd.underlying43 rfl ?_ | refine wpList_load1_w 43 _ rfl ⟨gb, 4, none⟩ rfl rfl u4 _ (((cell_of_row _ _ 4 _ _ _ B2).trans (by rw [Hds.out]; rfl))) Tryd.underlying43 rfl ?_ | refine wpList_load1_w 43 _ rfl ⟨gb, 27, none⟩ rfl rfl u27 _ (((cell_of_row _ _ 27 _ _ _ B2).trans (by rw [Hds.out]; rfl))) Tryd.underlying43 rfl ?_)
    | (go_at_call 32; (with_reducible refine (QB.out _ HW).mono ?_); rintro e w1 ⟨rfl, hb⟩; replace B1 := blkB hb B1; replace B2 := blkB hb B2; replace HW := belT HW hb; clear hb)
    | (go_at_call 98; (with_reducible first | refine (QL4.out _ HW).mono ?_ | refine (QL27.out _ HW).mono ?_); rintro e w1 ⟨rfl, hb⟩; replace B1 := blkB hb B1; replace B2 := blkB hb B2; replace HW := belT HW hb; clear hb))
  go_ret
  exact ⟨rfl, HW⟩
structure LentAt (w : World) (ad : Addr) (k : Nat) (o : Ob) (v4 v27 : Value) : Prop where
  l4 : LentK w o.labels v4
  l27 : LentK w o.select v27
  cells : ∀ (j : Nat) (u : Value), (o.cells v4 v27)[j]? = some u → w.cell? ((ad.add (k * 32)).add j) = some u
theorem lentAt {w : World} {A : Option Addr} {n : Nat} {l : List Ob} (h : kLent.C w A n l) (k : Nat) (o : Ob) (hk : l[k]? = some o) : ∃ ad v4 v27, A = some ad ∧ LentAt w ad k o v4 v27 := by
  have hl := (List.getElem?_eq_some_iff.1 hk).1
  obtain ⟨ad, e, hc⟩ := h.2.2 (by have := h.1; omega)
  obtain ⟨c, hs, ⟨v4, v27, rfl, h4, h27⟩, hcell⟩ := hc k o hk
  exact ⟨ad, v4, v27, e, h4, h27, fun j u hu => by rw [add_add]; exact hcell j u (by simpa using hu)⟩
def rg18_6_T : Bool × List (List Nat × List Nat) := (true, [([], []), ([], []), ([0, 1], [0, 1]), ([2], [2]), ([], []), ([], []), ([4, 5], [4, 5]), ([6], [6]), ([3, 7], [3, 7]), ([8], [8])])
def rg18_6_B : List Nat := [0, 0, 3, 7, 0, 0, 48, 112, 255, 511]
theorem rg18_6_tab : rtab .any (opsOf Tryd.f18 6) = rg18_6_T := by kernel_rfl
theorem rg18_6_bits : waitsOk rg18_6_T.2 rg18_6_B = true := by kernel_rfl
set_option maxHeartbeats 1600000 in
set_option maxRecDepth 100000 in
theorem keptObjects_calls (A B : Option Addr) (l : List Ob) (c d n : Nat) (w : World) (hr : kLent.C w A n l) (hs : kO.C w B n l) (hl : l.length = n) (hn : n ≤ 1000000) (hf : ∀ o ∈ l, ObFits o) :
    Calls Tryd.prog 18 #[.slice A n c, .slice B n d] w fun e w' => e = .returned (.bool true) ∧ Below w.heap.size w w' := by
  have HR := Lib.hid hr
  have HS := Lib.hid hs
  have HL := Lib.hid hl
  have HF := Lib.hid hf
  clear hr hs hl hf
  go_enter Tryd.func18, Tryd.ntmps18
  go_wp2
  go_loopw [5] (fun v5 wr => ∃ k : Nat, k ≤ n ∧ v5 = .int .i64 k ∧ Hid (Below w.heap.size w wr)) (fun v5 _ => n - (intOf v5).toNat)
  case atStart => exact ⟨0, Nat.zero_le _, rfl, Lib.hid (Below.refl _ _)⟩
  case round =>
    obtain ⟨k, hk, rfl, hI⟩ := hrel
    by_cases hlt : k < n
    · obtain ⟨o, ho⟩ : ∃ o, l[k]? = some o := ⟨_, List.getElem?_eq_getElem (by have := HL.out; omega)⟩
      obtain ⟨ad, v4, v27, rfl, hO⟩ := lentAt (Kd.C_below HR.out hI.out) k o ho
      obtain ⟨bd, u4, u27, rfl, hP⟩ := objAt (Kd.C_below HS.out hI.out) k o ho
      obtain ⟨cs, hcs⟩ : ∃ cs, cs = o.cells v4 v27 := ⟨_, rfl⟩
      obtain ⟨ds, hds⟩ : ∃ ds, ds = o.cells u4 u27 := ⟨_, rfl⟩
      have hi1 : Hid ((Tryd.prog.info? 48).map (·.size) = some cs.size) := Lib.hid (by rw [hcs, Ob.cells_size]; kernel_rfl)
      have hi2 : Hid ((Tryd.prog.info? 48).map (·.size) = some ds.size) := Lib.hid (by rw [hds, Ob.cells_size]; kernel_rfl)
      have B1 := hO.cells
      have B2 := hP.cells
      rw [← hcs] at B1
      rw [← hds] at B2
      have QS := Lib.hid (fun (W : World) (hW : Below wr.heap.size wr W) => keptObject_calls o v4 v27 u4 u27 W (hO.l4.below hW) (hO.l27.below hW) (hP.l4.below hW) (hP.l27.below hW) (HF.out o (List.mem_of_getElem? ho)))
      rw [← hcs, ← hds] at QS
      replace B1 := Lib.hid (fun (W : World) (hW : Below wr.heap.size wr W) j u hu => cell_below hW (B1 j u hu))
      replace B2 := Lib.hid (fun (W : World) (hW : Below wr.heap.size wr W) j u hu => cell_below hW (B2 j u hu))
      clear ho hcs hds hO hP
      have HB : Below wr.heap.size wr wr := Below.refl _ _
      replace HB := below_drew HB
      have hlk : (k : Int) < (n : Int) := by omega
      go_upto_region 6 with (fail)
      refine start_ (n := 10) (S := fun w' => Below wr.heap.size wr w') (ds := []) (bs 10 0) (by kernel_rfl) rfl (by kernel_rfl) HB (fun hHeld => ?_)
      refine with_tabW rg18_6_tab rg18_6_bits (fun HT_ HW_ => ?_)
      refine pu 0 (some 17) (bs 10 1) HT_ rfl rfl (by kernel_rfl) (fun _ _ _ _ h => h) ⟨_, .inl ⟨by rfl, fun _ => by go_simp; with_reducible rfl⟩, _, by simp only [Act.put, sA, sB, sC, i64_w, i32_w]; rfl, ?_⟩
      refine pu 1 (some 18) (bs 10 3) HT_ rfl rfl (by kernel_rfl) (fun _ _ _ _ h => h) ⟨_, .inl ⟨by rfl, fun _ => by go_simp; with_reducible rfl⟩, _, by simp only [Act.put, sA, sB, sC, i64_w, i32_w]; rfl, ?_⟩
      refine pu 2 (some 19) (bs 10 7) HT_ rfl rfl (by kernel_rfl) (fun _ _ _ _ h => h) ⟨_, .inl ⟨by rfl, fun _ => by go_simp; with_reducible rfl⟩, _, by simp only [Act.put, sA, sB, sC, i64_w, i32_w]; rfl, ?_⟩
      refine pu 4 (some 21) (bs 10 23) HT_ rfl rfl (by kernel_rfl) (fun _ _ _ _ h => h) ⟨_, .inl ⟨by rfl, fun _ => by go_simp; with_reducible rfl⟩, _, by simp only [Act.put, sA, sB, sC, i64_w, i32_w]; rfl, ?_⟩
      refine pu 5 (some 22) (bs 10 55) HT_ rfl rfl (by kernel_rfl) (fun _ _ _ _ h => h) ⟨_, .inl ⟨by rfl, fun _ => by go_simp; with_reducible rfl⟩, _, by simp only [Act.put, sA, sB, sC, i64_w, i32_w]; rfl, ?_⟩
      refine pu 6 (some 23) (bs 10 119) HT_ rfl rfl (by kernel_rfl) (fun _ _ _ _ h => h) ⟨_, .inl ⟨by rfl, fun _ => by go_simp; with_reducible rfl⟩, _, by simp only [Act.put, sA, sB, sC, i64_w, i32_w]; rfl, ?_⟩
      refine tk 3 (some 20) (bs 10 127) HT_ HW_ rfl rfl (by kernel_rfl) (fun _ _ _ _ h => h) hHeld ⟨_, .inl ⟨by rfl, by rintro w' s0; refine load_any_ (x := .tmp 19) (p := ad.add (k * 32)) ?_ ?_ (B1.out _ s0) Tryd.underlying48 rfl hi1.out <;> rfl⟩, _, by simp only [Act.put, sA, sB, sC, i64_w, i32_w]; rfl, ?_⟩
      refine tk 7 (some 24) (bs 10 255) HT_ HW_ rfl rfl (by kernel_rfl) (fun _ _ _ _ h => h) hHeld ⟨_, .inl ⟨by rfl, by rintro w' s0; refine load_any_ (x := .tmp 23) (p := bd.add (k * 32)) ?_ ?_ (B2.out _ s0) Tryd.underlying48 rfl hi2.out <;> rfl⟩, _, by simp only [Act.put, sA, sB, sC, i64_w, i32_w]; rfl, ?_⟩
      refine on1 8 (some 25) (bs 10 511) HT_ rfl rfl (by kernel_rfl) (by decide) (fun K hK => ?_)
      refine goes_ Tryd.func64 (by kernel_rfl) rfl #[.agg cs, .agg ds] (by rfl) rfl rfl (by (try simp only [List.map_toArray, List.map_cons, List.map_nil]); first | done | rfl) ?_
      with_reducible refine (QS.out _ HB).mono ?_
      rintro e w1 ⟨rfl, hb⟩
      replace HB := belT HB hb
      clear hb
      refine ⟨_, rfl, ?_⟩
      refine hK.out _ _ HB (fun hHeld => ?_)
      clear hK K
      refine nm ⟨_, show Act.put _ (some 25) _ = _ by simp only [Act.put, sA, sB, sC, i64_w, i32_w]; rfl, ?_⟩
      refine pu 9 (some 26) (bs 10 1023) HT_ rfl rfl (by kernel_rfl) (fun _ _ _ _ h => h) ⟨_, .inl ⟨by rfl, fun _ => by go_simp; with_reducible rfl⟩, _, by simp only [Act.put, sA, sB, sC, i64_w, i32_w]; rfl, ?_⟩
      refine done_ (done_of HT_.out (by kernel_rfl)) ?_
      go_wp2
      go_roundw
      case rel => exact ⟨k + 1, by omega, by go_num, Lib.hid (belT hI.out HB)⟩
      case measure => simp [intOf]; omega
    · obtain rfl : n = k := by omega
      go_wp2
      go_ret
      exact ⟨rfl, hI.out⟩
end Go.Proofs.YtoepbjgldmgaoaaDoor

/- The order of objects by their kinds and names: what object.Sorted hands to the sort, and the document's Below. -/
namespace Go.Proofs.YtoepbjgldmgaoaaDoor
open Go.RowKit Go.Proofs.YtoepbjgldmgaoaaDoorW.PrintWords Go.Proofs.YtoepbjgldmgaoaaDoorW.PrintLast
def cS (p q : Int × ByteArray) : Int := if Wc.lessI p.1 q.1 = 0 then Wc.cmpW p.2 q.2 else Wc.lessI p.1 q.1
theorem cS_cmp : Wc.IsCmp cS := (Wc.lessI_cmp.on Prod.fst).then_ (Wc.cmpW_cmp.on Prod.snd)
def Ob.kn (o : Ob) : Int × ByteArray := (o.kind, o.name)
def knOf (x : Array Value) : Int × ByteArray := (intAt x 0, strAt x 1)
def cSa (x y : Array Value) : Int := cS (knOf x) (knOf y)
theorem cSa_cmp : Wc.IsCmp cSa := cS_cmp.on knOf
def sortK (l : List Ob) : List Ob := Srt.isort (fun a b => cS a.kn b.kn) l
theorem or2 (x y : Int) : QWc.cmp_Or_int.f 4 [x, y] = some (if x = 0 then y else x) := by
  unfold QWc.cmp_Or_int.f
  simp only [QWc.cmp_Or_int.l0, List.length_cons, List.length_nil]
  have r0 : rd [x, y] 0 = x := rfl
  have r1 : rd [x, y] 1 = y := rfl
  have w1 : wrap64 1 = 1 := by unfold wrap64; omega
  have w2 : wrap64 2 = 2 := by unfold wrap64; omega
  by_cases h : x = 0
  · subst h
    by_cases g : y = 0
    · subst g
      simp [r0, r1, w1, w2]
    · simp [r0, r1, w1, w2, g]
  · simp [r0, r1, w1, w2, h]
theorem drawn_below {w w' : World} (h : Drawn0 w w') : Below w.heap.size w w' := by
  obtain ⟨n, rfl⟩ := h.out
  exact pw_below_drewN (Below.refl _ _) n
def rg44_1_T : Bool × List (List Nat × List Nat) := (true, [([], []), ([0], [0]), ([], []), ([2], [2]), ([1, 3], [1, 3]), ([], []), ([5], [5]), ([], []), ([7], [7]), ([6, 8, 4], [6, 8]), ([4, 9], [4, 9]), ([10, 9], [10]), ([11, 11, 0, 1, 2, 3, 4, 5, 6, 7, 8, 9, 10, 11], [11])])
def rg44_1_B : List Nat := [0, 1, 0, 4, 15, 0, 32, 0, 128, 511, 1023, 2047, 4095]
theorem rg44_1_tab : rtab .any (opsOf Tryd.f44 1) = rg44_1_T := by kernel_rfl
theorem rg44_1_bits : waitsOk rg44_1_T.2 rg44_1_B = true := by kernel_rfl
set_option maxHeartbeats 4000000 in
set_option maxRecDepth 100000 in
theorem srt1_calls (o p : Ob) (v4 v27 u4 u27 : Value) (m1 : o.name.size ≤ 140737488351232) (m2 : p.name.size ≤ 140737488351232) (w : World) :
    Calls Tryd.prog 44 #[.agg (o.cells v4 v27), .agg (p.cells u4 u27)] w fun e w' => e = .returned (.int .i64 (cS o.kn p.kn)) ∧ Below w.heap.size w w' := by
  obtain ⟨k1, hk1⟩ : ∃ k, k = o.kind := ⟨_, rfl⟩
  obtain ⟨k2, hk2⟩ : ∃ k, k = p.kind := ⟨_, rfl⟩
  obtain ⟨n1, hn1⟩ : ∃ k, k = o.name := ⟨_, rfl⟩
  obtain ⟨n2, hn2⟩ : ∃ k, k = p.name := ⟨_, rfl⟩
  obtain ⟨ci, hci⟩ : ∃ c, c = Wc.lessI k1 k2 := ⟨_, rfl⟩
  obtain ⟨cw, hcw⟩ : ∃ c, c = Wc.cmpW n1 n2 := ⟨_, rfl⟩
  have hres : cS o.kn p.kn = if ci = 0 then cw else ci := by rw [hci, hcw, hk1, hk2, hn1, hn2]; rfl
  rw [hres]
  obtain ⟨r, hr⟩ : ∃ r, r = if ci = 0 then cw else ci := ⟨_, rfl⟩
  rw [← hr]
  have QW := Lib.hid (fun W => Wc.words_calls n1 n2 cw W (by rw [hn1, hn2] at hcw ⊢; unfold Wc.cmpO; rw [if_pos ⟨m1, m2⟩, hcw]))
  have QI := Lib.hid (fun W => QWc.cmp_Compare_int.calls k1 k2 ci W (by rw [hci]; exact Wc.less1 _ _))
  have QO := Lib.hid (fun (A : Option Addr) (c : Nat) W (hc : Kd.C (Kd.int .i64) W A 2 [ci, cw]) (hl : 2 ≤ c) => show Calls Tryd.prog 45 #[.slice A 2 c] W _ from QWc.cmp_Or_int.calls 4 A c [ci, cw] r W hc hl (by rw [or2, hr]))
  obtain ⟨cs, hcs⟩ : ∃ cs, cs = o.cells v4 v27 := ⟨_, rfl⟩
  obtain ⟨ds, hds⟩ : ∃ cs, cs = p.cells u4 u27 := ⟨_, rfl⟩
  have e0 : cs[0]? = some (.int .i64 k1) := by rw [hcs, hk1]; rfl
  have e1 : cs[1]? = some (.string n1) := by rw [hcs, hn1]; rfl
  have f0 : ds[0]? = some (.int .i64 k2) := by rw [hds, hk2]; rfl
  have f1 : ds[1]? = some (.string n2) := by rw [hds, hn2]; rfl
  have HE := Lib.hid (And.intro e0 (And.intro e1 (And.intro f0 f1)))
  rw [← hcs, ← hds]
  clear hk1 hk2 hn1 hn2 hci hcw hres hr hcs hds e0 e1 f0 f1 m1 m2
  go_enter Tryd.func44, Tryd.ntmps44
  go_upto_region 1 with (fail)
  have HW : Below w.heap.size w ((w.alloc (Obj.cells cs 48)).alloc (Obj.cells ds 48)) := Go.Joins.below_alloc2 w _ _
  have B1 : ((w.alloc (Obj.cells cs 48)).alloc (Obj.cells ds 48)).heap[w.heap.size]? = some (.cells cs 48 (0, 0)) := (heap_alloc_old _ _ (by simp)).trans (heap_alloc_new w _)
  have B2 : ((w.alloc (Obj.cells cs 48)).alloc (Obj.cells ds 48)).heap[w.heap.size + 1]? = some (.cells ds 48 (0, 0)) := heap_alloc2_new w _ _
  generalize ((w.alloc (Obj.cells cs 48)).alloc (Obj.cells ds 48)) = W0 at HW B1 B2 ⊢
  obtain ⟨ga, hga⟩ : ∃ x, x = w.heap.size := ⟨_, rfl⟩
  obtain ⟨gb, hgb⟩ : ∃ x, x = w.heap.size + 1 := ⟨_, rfl⟩
  rw [← hgb] at B2 ⊢
  rw [← hga] at B1 ⊢
  have HB : Below W0.heap.size W0 W0.drew := below_drew (Below.refl _ _)
  replace HW := Lib.hid HW
  have C1 : W0.drew.cell? ⟨ga, 0, none⟩ = some (.int .i64 k1) := (cell_of_row _ _ 0 _ _ _ B1).trans HE.out.1
  have C2 : W0.drew.cell? ⟨ga, 1, none⟩ = some (.string n1) := (cell_of_row _ _ 1 _ _ _ B1).trans HE.out.2.1
  have C3 : W0.drew.cell? ⟨gb, 0, none⟩ = some (.int .i64 k2) := (cell_of_row _ _ 0 _ _ _ B2).trans HE.out.2.2.1
  have C4 : W0.drew.cell? ⟨gb, 1, none⟩ = some (.string n2) := (cell_of_row _ _ 1 _ _ _ B2).trans HE.out.2.2.2
  clear hga hgb B1 B2
  refine start_ (n := 13) (S := fun w' => w'.cell? ⟨ga, 0, none⟩ = some (.int .i64 k1) ∧ w'.cell? ⟨ga, 1, none⟩ = some (.string n1) ∧ w'.cell? ⟨gb, 0, none⟩ = some (.int .i64 k2) ∧ w'.cell? ⟨gb, 1, none⟩ = some (.string n2)) (ds := [10, 11]) (bs 13 0) (by kernel_rfl) rfl (by kernel_rfl) ⟨C1, C2, C3, C4⟩ (fun hHeld => ?_)
  refine with_tabW rg44_1_tab rg44_1_bits (fun HT_ HW_ => ?_)
  refine pu 0 (some 5) (bs 13 1) HT_ rfl rfl (by kernel_rfl) (fun _ _ _ _ h => h) ⟨_, .inl ⟨by rfl, fun _ => by go_simp; with_reducible rfl⟩, _, by simp only [Act.put, sA, sB, sC, i64_w, i32_w]; rfl, ?_⟩
  refine pu 2 (some 7) (bs 13 5) HT_ rfl rfl (by kernel_rfl) (fun _ _ _ _ h => h) ⟨_, .inl ⟨by rfl, fun _ => by go_simp; with_reducible rfl⟩, _, by simp only [Act.put, sA, sB, sC, i64_w, i32_w]; rfl, ?_⟩
  refine pu 5 (some 10) (bs 13 37) HT_ rfl rfl (by kernel_rfl) (fun _ _ _ _ h => h) ⟨_, .inl ⟨by rfl, fun _ => by go_simp; with_reducible rfl⟩, _, by simp only [Act.put, sA, sB, sC, i64_w, i32_w]; rfl, ?_⟩
  refine pu 7 (some 12) (bs 13 165) HT_ rfl rfl (by kernel_rfl) (fun _ _ _ _ h => h) ⟨_, .inl ⟨by rfl, fun _ => by go_simp; with_reducible rfl⟩, _, by simp only [Act.put, sA, sB, sC, i64_w, i32_w]; rfl, ?_⟩
  refine tk 1 (some 6) (bs 13 167) HT_ HW_ rfl rfl (by kernel_rfl) (fun _ _ _ _ h => h) hHeld ⟨_, .inl ⟨by rfl, by rintro w' ⟨s0, s1, s2, s3⟩; go_simp; with_reducible rfl⟩, _, by simp only [Act.put, sA, sB, sC, i64_w, i32_w]; rfl, ?_⟩
  refine tk 3 (some 8) (bs 13 175) HT_ HW_ rfl rfl (by kernel_rfl) (fun _ _ _ _ h => h) hHeld ⟨_, .inl ⟨by rfl, by rintro w' ⟨s0, s1, s2, s3⟩; go_simp; with_reducible rfl⟩, _, by simp only [Act.put, sA, sB, sC, i64_w, i32_w]; rfl, ?_⟩
  refine tk 6 (some 11) (bs 13 239) HT_ HW_ rfl rfl (by kernel_rfl) (fun _ _ _ _ h => h) hHeld ⟨_, .inl ⟨by rfl, by rintro w' ⟨s0, s1, s2, s3⟩; go_simp; with_reducible rfl⟩, _, by simp only [Act.put, sA, sB, sC, i64_w, i32_w]; rfl, ?_⟩
  refine tk 8 (some 13) (bs 13 495) HT_ HW_ rfl rfl (by kernel_rfl) (fun _ _ _ _ h => h) hHeld ⟨_, .inl ⟨by rfl, by rintro w' ⟨s0, s1, s2, s3⟩; go_simp; with_reducible rfl⟩, _, by simp only [Act.put, sA, sB, sC, i64_w, i32_w]; rfl, ?_⟩
  refine on1 4 (some 9) (bs 13 511) HT_ rfl rfl (by kernel_rfl) (by decide) (fun K hK => ?_)
  refine goes_ Tryd.func46 (by kernel_rfl) rfl #[.int .i64 k1, .int .i64 k2] (by rfl) rfl rfl (by (try simp only [List.map_toArray, List.map_cons, List.map_nil]); first | done | rfl) ?_
  with_reducible refine (QI.out _).mono ?_
  rintro e w1 ⟨rfl, hd⟩
  have hb := drawn_below hd
  replace C1 := cell_below hb C1
  replace C2 := cell_below hb C2
  replace C3 := cell_below hb C3
  replace C4 := cell_below hb C4
  replace HB := belT HB hb
  clear hb hd
  refine ⟨_, rfl, ?_⟩
  refine hK.out _ _ ⟨C1, C2, C3, C4⟩ (fun hHeld => ?_)
  clear hK K
  refine nm ⟨_, show Act.put _ (some 9) _ = _ by simp only [Act.put, sA, sB, sC, i64_w, i32_w]; rfl, ?_⟩
  refine on1 9 (some 14) (bs 13 1023) HT_ rfl rfl (by kernel_rfl) (by decide) (fun K hK => ?_)
  refine goes_ Tryd.func47 (by kernel_rfl) rfl #[.string n1, .string n2] (by rfl) rfl rfl (by (try simp only [List.map_toArray, List.map_cons, List.map_nil]); first | done | rfl) ?_
  with_reducible refine (QW.out _).mono ?_
  rintro e w2 ⟨rfl, hb⟩
  replace C1 := cell_below hb C1
  replace C2 := cell_below hb C2
  replace C3 := cell_below hb C3
  replace C4 := cell_below hb C4
  replace HB := belT HB hb
  clear hb
  refine ⟨_, rfl, ?_⟩
  refine hK.out _ _ ⟨C1, C2, C3, C4⟩ (fun hHeld => ?_)
  clear hK K
  refine nm ⟨_, show Act.put _ (some 14) _ = _ by simp only [Act.put, sA, sB, sC, i64_w, i32_w]; rfl, ?_⟩
  refine la1 10 (some 15) (bs 13 2047) HT_ rfl rfl (by kernel_rfl) (by decide) (fun K hK => ?_)
  refine Kd.R_lit_step (Kd.int .i64) (w0 := _) _ 3 (by rfl) (N := 15) rfl (xs := ([ci, cw] : List Int)) (inner := [.int .i64 ci, .int .i64 cw]) (ok := fun _ => True) (okp := fun _ => True) ?zr ?zp (fun _ hk => hk) trivial (Below.refl _ _) (Nat.le_refl _) (by simp) ?zh
  case zp => exact (Reps.one (show Kd.M (Kd.int .i64) _ _ _ ci [.int .i64 ci] from rfl) (Reps.one (show Kd.M (Kd.int .i64) _ _ _ cw [.int .i64 cw] from rfl) (Reps.none _ _)))
  case zr => first | (go_simp; done) | (go_simp; rfl)
  intro v1 w3 hR hB3 hg3 ho3
  obtain ⟨A3, c3, rfl⟩ := Kd.R_slice hR
  have hC3 := (Kd.R_reads' hR).2
  have hL3 : 2 ≤ c3 := hC3.1
  have hD3 : Kd.C (Kd.int .i64) w3 A3 2 [ci, cw] := hC3.2
  replace HB := belT HB hB3
  refine hK.out _ _ ?_
  clear hK K
  refine nm ⟨_, show Act.put _ (some 15) _ = _ by simp only [Act.put, sA, sB, sC, i64_w, i32_w]; rfl, ?_⟩
  refine la1 11 (some 16) (bs 13 4095) HT_ rfl rfl (by kernel_rfl) (by decide) (fun K hK => ?_)
  refine goes_ Tryd.func45 (by kernel_rfl) rfl #[.slice A3 2 c3] (by rfl) rfl rfl (by (try simp only [List.map_toArray, List.map_cons, List.map_nil]); first | done | rfl) ?_
  with_reducible refine (QO.out A3 c3 w3 hD3 hL3).mono ?_
  rintro e w4 ⟨rfl, hd⟩
  have hb := drawn_below hd
  replace HB := belT HB hb
  clear hb hd
  refine ⟨_, rfl, ?_⟩
  refine hK.out _ _ ?_
  clear hK K
  refine nm ⟨_, show Act.put _ (some 16) _ = _ by simp only [Act.put, sA, sB, sC, i64_w, i32_w]; rfl, ?_⟩
  refine pu 12 (some 4) (bs 13 8191) HT_ rfl rfl (by kernel_rfl) (fun _ _ _ _ h => h) ⟨_, .inl ⟨by rfl, fun _ => by go_simp; with_reducible rfl⟩, _, by simp only [Act.put, sA, sB, sC, i64_w, i32_w]; rfl, ?_⟩
  refine done_ (done_of HT_.out (by kernel_rfl)) ?_
  go_wp2
  go_ret
  exact ⟨rfl, belT HW.out HB⟩
theorem srt1_at : CmpAt 44 IsObj cSa where
  fn := ⟨_, Tryd.func44, by kernel_rfl, by kernel_rfl⟩
  calls := by
    rintro x y ⟨o, v4, v27, rfl, m1⟩ ⟨p, u4, u27, rfl, m2⟩ W
    exact srt1_calls o p v4 v27 u4 u27 m1 m2 W
theorem below_calls (o p : Ob) (v4 v27 u4 u27 : Value) (m1 : o.name.size ≤ 140737488351232) (m2 : p.name.size ≤ 140737488351232) (w : World) :
    Calls Tryd.prog 48 #[.agg (o.cells v4 v27), .agg (p.cells u4 u27)] w fun e w' => e = .returned (.bool (decide (cS o.kn p.kn < 0))) ∧ Below w.heap.size w w' := by
  obtain ⟨k1, hk1⟩ : ∃ k, k = o.kind := ⟨_, rfl⟩
  obtain ⟨k2, hk2⟩ : ∃ k, k = p.kind := ⟨_, rfl⟩
  obtain ⟨n1, hn1⟩ : ∃ k, k = o.name := ⟨_, rfl⟩
  obtain ⟨n2, hn2⟩ : ∃ k, k = p.name := ⟨_, rfl⟩
  obtain ⟨cw, hcw⟩ : ∃ c, c = Wc.cmpW n1 n2 := ⟨_, rfl⟩
  have hres : cS o.kn p.kn = if Wc.lessI k1 k2 = 0 then cw else Wc.lessI k1 k2 := by rw [hcw, hk1, hk2, hn1, hn2]; rfl
  rw [hres]
  have QW := Lib.hid (fun W => Wc.ref_calls n1 n2 cw W (by rw [hn1, hn2] at hcw ⊢; unfold Wc.cmpO; rw [if_pos ⟨m1, m2⟩, hcw]))
  obtain ⟨cs, hcs⟩ : ∃ cs, cs = o.cells v4 v27 := ⟨_, rfl⟩
  obtain ⟨ds, hds⟩ : ∃ cs, cs = p.cells u4 u27 := ⟨_, rfl⟩
  have e0 : cs[0]? = some (.int .i64 k1) := by rw [hcs, hk1]; rfl
  have e1 : cs[1]? = some (.string n1) := by rw [hcs, hn1]; rfl
  have f0 : ds[0]? = some (.int .i64 k2) := by rw [hds, hk2]; rfl
  have f1 : ds[1]? = some (.string n2) := by rw [hds, hn2]; rfl
  have B1 : ((w.alloc (Obj.cells cs 48)).alloc (Obj.cells ds 48)).heap[w.heap.size]? = some (.cells cs 48 (0, 0)) := (heap_alloc_old _ _ (by simp)).trans (heap_alloc_new w _)
  have B2 : ((w.alloc (Obj.cells cs 48)).alloc (Obj.cells ds 48)).heap[w.heap.size + 1]? = some (.cells ds 48 (0, 0)) := heap_alloc2_new w _ _
  have C1 : ((w.alloc (Obj.cells cs 48)).alloc (Obj.cells ds 48)).cell? ⟨w.heap.size, 0, none⟩ = some (.int .i64 k1) := (cell_of_row _ _ 0 _ _ _ B1).trans e0
  have C2 : ((w.alloc (Obj.cells cs 48)).alloc (Obj.cells ds 48)).cell? ⟨w.heap.size, 1, none⟩ = some (.string n1) := (cell_of_row _ _ 1 _ _ _ B1).trans e1
  have C3 : ((w.alloc (Obj.cells cs 48)).alloc (Obj.cells ds 48)).cell? ⟨w.heap.size + 1, 0, none⟩ = some (.int .i64 k2) := (cell_of_row _ _ 0 _ _ _ B2).trans f0
  have C4 : ((w.alloc (Obj.cells cs 48)).alloc (Obj.cells ds 48)).cell? ⟨w.heap.size + 1, 1, none⟩ = some (.string n2) := (cell_of_row _ _ 1 _ _ _ B2).trans f1
  have HB := Lib.hid (Go.Joins.below_alloc2 w (Obj.cells cs 48) (Obj.cells ds 48))
  rw [← hcs, ← hds]
  clear hk1 hk2 hn1 hn2 hcw hres hcs hds e0 e1 f0 f1 m1 m2 B1 B2
  rcases Int.lt_trichotomy k1 k2 with h | h | h
  · have d1 : decide (k1 < k2) = true := decide_eq_true h
    have hl : (if Wc.lessI k1 k2 = 0 then cw else Wc.lessI k1 k2) = -1 := by unfold Wc.lessI; rw [if_pos h]; rfl
    rw [hl]
    go_enter Tryd.func48, Tryd.ntmps48
    go_wp2
    go_ret
    exact ⟨rfl, HB.out⟩
  · subst h
    have d1 : decide (k1 < k1) = false := by simp
    have hl : (if Wc.lessI k1 k1 = 0 then cw else Wc.lessI k1 k1) = cw := by unfold Wc.lessI; simp
    rw [hl]
    go_enter Tryd.func48, Tryd.ntmps48
    go_wp2_with (first
      | (go_at_call 67; (with_reducible refine (QW.out _).mono ?_); rintro e w7 ⟨rfl, hb7⟩))
    go_ret
    exact ⟨rfl, belT HB.out hb7⟩
  · have d1 : decide (k1 < k2) = false := decide_eq_false (by omega)
    have d2 : decide (k1 = k2) = false := decide_eq_false (by omega)
    have d3 : (k1 == k2) = false := by simpa using (show ¬ k1 = k2 by omega)
    have hl : (if Wc.lessI k1 k2 = 0 then cw else Wc.lessI k1 k2) = 1 := by rw [Wc.lessI_gt h]; rfl
    rw [hl]
    go_enter Tryd.func48, Tryd.ntmps48
    go_wp2
    go_ret
    exact ⟨rfl, HB.out⟩
end Go.Proofs.YtoepbjgldmgaoaaDoor
