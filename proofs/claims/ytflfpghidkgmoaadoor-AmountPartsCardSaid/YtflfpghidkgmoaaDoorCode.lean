/- Errors as codes: a number, or an amount that may not be; amount.made, flotillakit.Num and flotillakit.Plain told by them. -/
import Derived.Test.YtflfpghidkgmoaaDoorMade
namespace Go.Proofs.YtflfpghidkgmoaaDoor
set_option linter.unusedVariables false
set_option linter.unusedSimpArgs false
open Go.RowKit

def bigI : Int := 9223372036854775808
def bigJ : Int := 18446744073709551616
def errT (c : Int) : TypeId := if c < bigI then 52 else 91
def dec1 (c : Int) : Int := (c - bigI) / bigJ - bigI
def dec2 (c : Int) : Int := (c - bigI) % bigJ - bigI
def errV (c : Int) : Value := if c < bigI then .int .i64 c else .agg #[.int .i64 (dec1 c), .int .i64 (dec2 c)]
def wcode (c m : Int) : Int := bigI + (c + bigI) * bigJ + (m + bigI)
def isI (x : Int) : Bool := decide (-bigI ≤ x) && decide (x < bigI)
theorem isI_iff (x : Int) : isI x = true ↔ -9223372036854775808 ≤ x ∧ x < 9223372036854775808 := by
  unfold isI bigI
  rw [Bool.and_eq_true, decide_eq_true_iff, decide_eq_true_iff]
theorem wcode_big (c m : Int) (hc : isI c = true) (hm : isI m = true) : ¬ wcode c m < bigI := by
  rw [isI_iff] at hc hm
  unfold wcode bigI bigJ
  omega
theorem wr_code (c m : Int) (hc : isI c = true) (hm : isI m = true) : Value.iface (errT (wcode c m)) (errV (wcode c m)) = wrV c m := by
  have hb := wcode_big c m hc hm
  rw [isI_iff] at hc hm
  have h1 : dec1 (wcode c m) = c := by unfold dec1 wcode bigI bigJ; omega
  have h2 : dec2 (wcode c m) = m := by unfold dec2 wcode bigI bigJ; omega
  unfold errT errV wrV
  rw [if_neg hb, if_neg hb, h1, h2]
/-- An error's number. -/
def codeNo (c : Int) : Int := if c < bigI then c else 13
def goodC (c : Int) : Bool := decide (1 ≤ c) && (decide (c ≤ 36) || decide (bigI ≤ c))
theorem evp_code (c : Int) (h : goodC c = true) : HasNoP (.iface (errT c) (errV c)) (codeNo c) := by
  simp only [goodC, Bool.and_eq_true, Bool.or_eq_true, decide_eq_true_eq] at h
  unfold errT errV codeNo
  by_cases hb : c < bigI
  · rw [if_pos hb, if_pos hb, if_pos hb]
    exact hasNoP_no c h.1 (by rcases h.2 with h2 | h2 <;> omega)
  · rw [if_neg hb, if_neg hb, if_neg hb]
    exact hasNoP_wrong _ _

def badC (a b c d e f : Int) : Int := if rA a b = true then (if rA c d = true then wcode e f else wcode c d) else wcode a b
def madeF (a b c d e f : Int) : Option (Int × Int × Option Int) :=
  if (rA a b && rA c d && rA e f) = true then some (e, f, none) else if (isI a && isI b && isI c && isI d && isI e && isI f) = true then some (0, 0, some (badC a b c d e f)) else none
def plainF (a : Option Int) (n : Int) : Option Bool :=
  match a with
  | none => some ((0 : Int) == n)
  | some c => if goodC c = true then some (codeNo c == n) else none
def numF (a : Option Int) : Option Int :=
  match a with
  | none => some 0
  | some c => if goodC c = true then some (codeNo c) else none
def errO : Option Int → Value
  | none => .nilIface
  | some c => .iface (errT c) (errV c)

theorem made_code (a0 a1 b0 b1 c0 c1 r1 r2 : Int) (r3 : Option Int) (w : World) (h : madeF a0 a1 b0 b1 c0 c1 = some (r1, r2, r3)) :
    Calls Tryd.prog 31 #[.agg #[.int .i64 a0, .int .i64 a1], .agg #[.int .i64 b0, .int .i64 b1], .agg #[.int .i64 c0, .int .i64 c1]] w fun e w' => e = .returned (.tuple #[.agg #[.int .i64 r1, .int .i64 r2], errO r3]) ∧ Below w.heap.size w w' := by
  unfold madeF at h
  by_cases hr : (rA a0 a1 && rA b0 b1 && rA c0 c1) = true
  · rw [if_pos hr] at h
    simp only [Option.some.injEq, Prod.mk.injEq] at h
    obtain ⟨rfl, rfl, rfl⟩ := h
    simp only [Bool.and_eq_true] at hr
    exact made_ok a0 a1 b0 b1 c0 c1 w hr.1.1 hr.1.2 hr.2
  · rw [if_neg hr] at h
    by_cases hi : (isI a0 && isI a1 && isI b0 && isI b1 && isI c0 && isI c1) = true
    · rw [if_pos hi] at h
      simp only [Option.some.injEq, Prod.mk.injEq] at h
      obtain ⟨rfl, rfl, rfl⟩ := h
      simp only [Bool.and_eq_true] at hi
      obtain ⟨⟨⟨⟨⟨i1, i2⟩, i3⟩, i4⟩, i5⟩, i6⟩ := hi
      unfold badC errO
      by_cases h0 : rA a0 a1 = true
      · by_cases h1 : rA b0 b1 = true
        · have h2 : ¬ rA c0 c1 = true := fun h2 => hr (by simp [h0, h1, h2])
          simp only [if_pos h0, if_pos h1]
          rw [wr_code c0 c1 i5 i6]
          exact made_bad a0 a1 b0 b1 c0 c1 c0 c1 w (by simp [firstBad, h0, h1, h2])
        · simp only [if_pos h0, if_neg h1]
          rw [wr_code b0 b1 i3 i4]
          exact made_bad a0 a1 b0 b1 c0 c1 b0 b1 w (by simp [firstBad, h0, h1])
      · simp only [if_neg h0]
        rw [wr_code a0 a1 i1 i2]
        exact made_bad a0 a1 b0 b1 c0 c1 a0 a1 w (by simp [firstBad, h0])
    · rw [if_neg hi] at h
      cases h
theorem plain_code (a : Option Int) (n : Int) (r : Bool) (w : World) (h : plainF a n = some r) (hg : ETypeAt w) :
    Calls Tryd.prog 17 #[errO a, .int .i64 n] w fun e w' => e = .returned (.bool r) ∧ Below w.heap.size w w' := by
  cases a with
  | none =>
    simp only [plainF, Option.some.injEq] at h
    subst h
    exact plain_nil n w
  | some c =>
    simp only [plainF] at h
    by_cases hc : goodC c = true
    · rw [if_pos hc] at h
      obtain rfl := Option.some.inj h
      exact plain_no (evp_code c hc) n w hg
    · rw [if_neg hc] at h
      cases h
theorem num_code (a : Option Int) (r : Int) (w : World) (h : numF a = some r) :
    Calls Tryd.prog 25 #[errO a] w fun e w' => e = .returned (.int .i64 r) ∧ Below w.heap.size w w' := by
  cases a with
  | none =>
    simp only [numF, Option.some.injEq] at h
    subst h
    exact (num_nil w).mono fun e w' ⟨he, hw⟩ => ⟨he, by rw [hw]; exact Below.refl _ _⟩
  | some c =>
    simp only [numF] at h
    by_cases hc : goodC c = true
    · rw [if_pos hc] at h
      obtain rfl := Option.some.inj h
      exact num_no (evp_code c hc).no w
    · rw [if_neg hc] at h
      cases h
end Go.Proofs.YtflfpghidkgmoaaDoor
