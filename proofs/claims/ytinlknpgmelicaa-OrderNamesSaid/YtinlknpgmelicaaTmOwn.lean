/- Empty lists as own ones; lists that may be empty, said in one way. -/
import Derived.Test.YtinlknpgmelicaaTmPure
namespace Go.Tm
open Go.RowKit Go.WideShapes

/-- what is empty, with no room, may be held as own -/
theorem Ok.own0 {P : Program} {lim n : Nat} {c : Code} {st : St} {Q : Exit → St → Prop} (t s s' k : Nat) (e : TypeId) (ht : getL st.vars t = some (.imm s [] k)) (hk : k % 8 ≤ 1) (hn : st.nx < lim)
    (h : Ok P lim n c ⟨put st.vars t (.ref st.nx s' 0 0 (some 0)), put st.heap st.nx (.arr e s' true []), st.nx + 1⟩ Q) : Ok P lim n c st Q := by
  intro E F a w g hF hR
  obtain ⟨h1, h2, h3⟩ := hF
  have hnu : F.nu st.nx = true := h3 st.nx (Nat.le_refl _) hn
  obtain ⟨g1, _⟩ := Rel.made hR (m := st.nx) (blk := .arr e s' true []) (loc := none) (kl := none) (w' := w) hnu ((Keep.refl _ w).mono fun _ _ h => h) (by rintro b o h; cases h) (by
    intro C hC hle hrf hσ
    exact .inl ⟨rfl, hσ⟩)
  have hp : effH F.hp ((st.nx, some (.arr e s' true [])) :: kill none) = getL (put st.heap st.nx (.arr e s' true [])) := by
    funext i
    rw [getL_put, h2]
    simp only [effH, kill, getL]
    by_cases hi : st.nx = i
    · subst hi; simp
    · simp [beq_ne hi, hi]
  refine h E ⟨getR (put st.vars t (.ref st.nx s' 0 0 (some 0))), (F.eff ((st.nx, some (.arr e s' true [])) :: kill none) (st.nx, st.nx + 1)).hp, (F.eff ((st.nx, some (.arr e s' true [])) :: kill none) (st.nx, st.nx + 1)).nu⟩ a w (setσ g st.nx none) ⟨rfl, hp, fun id k1 k2 => ?_⟩ ⟨g1.sz, g1.df, fun u => ?_, g1.mem, g1.base, g1.keep, g1.gz, g1.gs, g1.nu⟩
  · have k1 : st.nx + 1 ≤ id := k1
    have := h3 id (by omega) k2
    simp only [FrS.eff, effN, this, Bool.true_and, Bool.not_eq_true', Bool.and_eq_false_iff, decide_eq_false_iff_not]
    right
    omega
  · have hu := g1.rd u
    have hrd : (F.eff ((st.nx, some (.arr e s' true [])) :: kill none) (st.nx, st.nx + 1)).rd u = getR st.vars u := by rw [← h1]; rfl
    rw [hrd] at hu
    show rep (cx w (setσ g st.nx none) (F.eff ((st.nx, some (.arr e s' true [])) :: kill none) (st.nx, st.nx + 1)).hp) (getR (put st.vars t (.ref st.nx s' 0 0 (some 0))) u) (a.eval (.tmp u))
    have hg : getR (put st.vars t (.ref st.nx s' 0 0 (some 0))) u = if t = u then .ref st.nx s' 0 0 (some 0) else getR st.vars u := by
      unfold getR
      rw [getL_put]
      by_cases hh : t = u <;> simp [hh]
    rw [hg]
    by_cases htu : t = u
    · subst htu
      rw [if_pos rfl]
      have e1 : getR st.vars t = .imm s [] k := by unfold getR; rw [ht]
      rw [e1] at hu
      simp only [rep] at hu ⊢
      obtain ⟨ad, cap, he, k1, k2, k3, k4, k5, k6, _⟩ := hu
      have hc : cap = 0 := k5 (.inl hk)
      subst hc
      exact ⟨rfl, ad, 0, he, by simp, by simp, by simp, ⟨fun c hc => by cases hc; rfl, fun hc => by cases hc⟩, .inl rfl⟩
    · rw [if_neg htu]; exact hu

/-- the room of a list of one's own that was made by one append: none, if it is empty -/
def capOf {α : Type} (l : List α) : Option Nat := match l with
  | [] => some 0
  | _ :: _ => none

/-- an own list without room is nil, or it is not -/
theorem rep_own_split {id s : Nat} (C : Cx) (v : Value) (h : rep C (.ref id s 0 0 (some 0)) v) : rep C (.imm s [] 0) v ∨ rep C (.imm s [] 1) v := by
  simp only [rep] at h ⊢
  obtain ⟨_, ad, cap, he, h1, h2, h3, h4, _⟩ := h
  have hc := h4.1 0 rfl
  subst hc
  cases ad with
  | none => left; exact ⟨none, 0, he, by simp, by simp, by simp, by simp, by simp, by simp, by simp, .inl trivial⟩
  | some x => right; exact ⟨some x, 0, he, by simp, by simp, by simp, by simp, by simp, by simp, by simp, .inl trivial⟩
end Go.Tm
