/- What the bits of two quorums tell, in plain words. -/
import Derived.Test.YtphfahjdbmnkeaaTmPure
namespace Go.Proofs
open Go.Tm

/-- rising lists of numbers up to 5, from behind a number on -/
def risesP : Int → List Int → Bool
  | _, [] => true
  | last, n :: r => decide (last < n) && decide (n < 6) && risesP n r
def gen : Nat → Int → List (List Int)
  | 0, _ => [[]]
  | f + 1, lo => gen f (lo + 1) ++ (gen f (lo + 1)).map fun r => (lo + 1) :: r

theorem nil_gen : ∀ (f : Nat) (lo : Int), [] ∈ gen f lo
  | 0, _ => by simp [gen]
  | f + 1, lo => by simp only [gen, List.mem_append]; exact .inl (nil_gen f _)

theorem mem_gen : ∀ (f : Nat) (lo : Int) (l : List Int), 5 - lo ≤ f → risesP lo l = true → l ∈ gen f lo
  | f, lo, [], _, _ => nil_gen f lo
  | 0, lo, x :: r, hf, h => by
    simp only [risesP, Bool.and_eq_true, decide_eq_true_eq] at h
    omega
  | f + 1, lo, x :: r, hf, h => by
    have h' := h
    simp only [risesP, Bool.and_eq_true, decide_eq_true_eq] at h'
    simp only [gen, List.mem_append, List.mem_map]
    by_cases hx : x = lo + 1
    · subst hx
      exact .inr ⟨r, mem_gen f (lo + 1) r (by omega) h'.2, rfl⟩
    · refine .inl (mem_gen f (lo + 1) (x :: r) (by omega) ?_)
      simp only [risesP, Bool.and_eq_true, decide_eq_true_eq]
      exact ⟨⟨by omega, h'.1.2⟩, h'.2⟩

def setB (l : List Int) : Int := l.foldl (fun s n => bif decide (n ≥ 0) && decide (n < 6) then bitw .or .u64 s (shw true .u64 1 n) else s) 0
def hasI (l : List Int) (n : Int) : Bool := l.any fun x => x == n
def withinI (l all : List Int) : Bool := l.all fun n => hasI all n

theorem bits_gen : ((gen 6 (-1)).all fun r => (gen 6 (-1)).all fun m => (bitw .andNot .u64 (setB m) (setB r) == 0) == withinI m r) = true := by decide +kernel

theorem bits_within {r m : List Int} (hr : risesP (-1) r = true) (hm : risesP (-1) m = true) : (bitw .andNot .u64 (setB m) (setB r) == 0) = withinI m r := by
  have h := List.all_eq_true.1 (List.all_eq_true.1 bits_gen r (mem_gen 6 (-1) r (by omega) hr)) m (mem_gen 6 (-1) m (by omega) hm)
  exact eq_of_beq h
end Go.Proofs
