/- A row of a law that is handed nothing, off its contract. -/
import Derived.Test.YtinlknpgmelicaaTmRun
import Derived.WideKeyArgs
import Derived.ChangeSame
import Derived.ChangeArms
import Derived.OpenShut
import Derived.Carry
namespace Go.Tm
open Go.RowKit Go.WideShapes Go.ChangeShapes

/-! ## Functions that are handed nothing -/
theorem callP_zero {P : Program} {K : FuncId} {b : Bool} {eff : List (Nat × Option Blk)} {nw : Nat × Nat} (h : CallH P K [] [] (.bool b) eff nw) : CallP P K [] (.bool b) := by
  refine ⟨h.1, fun w vs hvs => ?_⟩
  let g : Gh := ⟨fun _ => none, fun _ => True, fun m => if m = 1 then some (fun x => w.heap.size ≤ x) else if m = 2 then some (fun x => x < w.heap.size) else none⟩
  have hM : Mem w.heap.size w g (fun _ => none) (fun _ => true) := by
    refine ⟨(fun id blk h => by cases h), fun id id' b o o' h => absurd rfl h, fun id _ => ⟨rfl, rfl⟩, ⟨fun _ _ => trivial, ⟨_, rfl, fun x hx => ⟨hx, trivial⟩, fun x hx => hx⟩, ⟨_, rfl, fun x hx => ⟨hx, trivial⟩⟩, ?_⟩, Nat.le_refl _⟩
    intro m Zm hm hz
    have : g.zn m = none := by
      simp only [g]
      rw [if_neg (by omega), if_neg (by omega)]
    rw [this] at hz; cases hz
  have hvs' : reps (cx w g fun _ => none) [] vs := by
    simp only [reps] at hvs ⊢; exact hvs
  refine (h.2 w.heap.size w g (fun _ => none) (fun _ => true) vs hM (fun id b h => by cases h) (fun _ _ _ => rfl) hvs').mono ?_
  rintro e w' ⟨v, g', he, ha⟩
  refine ⟨v, he, ha.keep.mono ?_, rfl, ?_⟩
  · rintro i _ ⟨id, o, h1, _⟩
    exact h1 rfl
  · have := ha.res
    simp only [rep] at this ⊢
    exact this

/-- tables of functions -/
def FtL (P : Program) (pt : Nat → Nat → List (Nat × Nat)) (l : List (Nat × Func)) : Prop := ∀ x ∈ l, P.funcs[x.1]? = some x.2 ∧ x.2.name ≠ "runtime.NumGoroutine" ∧ ∀ c, x.2.body = some c → codeOk x.2.ntmps (pt x.1) c = true

theorem FtL.nil {P : Program} {pt : Nat → Nat → List (Nat × Nat)} : FtL P pt [] := by intro x hx; cases hx

def bodyOk (fn : Func) (pt : Nat → List (Nat × Nat)) : Bool := match fn.body with
  | some c => codeOk fn.ntmps pt c
  | none => true

theorem FtL.cons {P : Program} {pt : Nat → Nat → List (Nat × Nat)} {K : Nat} {fn : Func} {l : List (Nat × Func)} (h1 : P.funcs[K]? = some fn) (h2 : (fn.name == "runtime.NumGoroutine") = false) (h3 : bodyOk fn (pt K) = true) (h : FtL P pt l) : FtL P pt ((K, fn) :: l) := by
  intro x hx
  rcases List.mem_cons.1 hx with rfl | hx
  · refine ⟨h1, fun e => ?_, fun c hc => ?_⟩
    · simp only at e; rw [e] at h2; simp at h2
    · unfold bodyOk at h3
      rw [hc] at h3
      exact h3
  · exact h x hx

theorem FtL.ok {P : Program} {pt : Nat → Nat → List (Nat × Nat)} {l : List (Nat × Func)} (h : FtL P pt l) : FtOk P (getL l) pt := by
  intro K fn hg
  exact h (K, fn) (getL_memP hg)

/-- does the closed call answer true, by reckoning? -/
def saysTrue (r : Option Out) : Bool := match r with
  | some out => (match out.d with | .bool true => out.met.isEmpty | _ => false)
  | none => false

theorem callP_run {P : Program} {tab : Nat → TI} (hT : TabOk P tab) (hm : P.follows .mixedOrders = true) {ft : Nat → Option Func} {pt : Nat → Nat → List (Nat × Nat)} (hft : FtOk P ft pt) {LF n K : Nat}
    (h : saysTrue (callX ft pt tab LF n K [] [] 0) = true) : CallP P K [] (.bool true) := by
  unfold saysTrue at h
  split at h
  · rename_i out ho
    obtain ⟨H, h1, h2, _, h4, _⟩ := callX_sound hT hm hft n K [] [] 0 out ho
    split at h
    · rename_i hd
      rw [hd] at h1
      rw [h4] at h
      have : H = [] := by cases H with | nil => rfl | cons x l => cases h
      subst this
      exact callP_zero h1
    · cases h
  · cases h

section
variable {H : Type} {enc : TypeId × Value → H} {P : Program}

/-- a law's row off its contract, where nothing is handed in -/
theorem law_zero {K : FuncId} {f : Func} {s : ChangeSpec} {apart fresh : Bool} {tb : TypeId} (hp : f.params = #[]) (hvars : s.vars = []) (hres : f.resultTypes = #[tb]) (hb : P.underlying tb = some .bool)
    (hfn : s.fn H [] = { results := [.lit (.bool true)], args := [] })
    (hK : CallP P K [] (.bool true)) {W : World} {args : Array Value} {ds gs : List (DataW H)} {before : List MemPlace}
    (hW : DataW.Whole enc P f.params.toList s.vars apart W args.toList ds gs before) :
    Calls P K args W fun e W' => ∃ v, e = .returned v ∧ s.post enc P f apart fresh false false W args v W' := by
  have hW' := hW
  obtain ⟨p, q, hA, hV, rfl, hfz, hnd⟩ := hW
  rw [hvars] at hV
  rw [hp] at hA
  have hgs : gs = [] ∧ q = [] := by
    cases gs with
    | nil => exact ⟨rfl, hV⟩
    | cons g gs => exact hV.elim
  obtain ⟨rfl, rfl⟩ := hgs
  have hargs : args = #[] ∧ ds = [] := by
    cases hargs : args.toList with
    | nil =>
      rw [hargs] at hA
      cases ds with
      | nil => exact ⟨by apply Array.ext'; simpa using hargs, rfl⟩
      | cons d ds => exact hA.elim
    | cons a as =>
      rw [hargs] at hA
      cases ds <;> exact hA.elim
  obtain ⟨rfl, rfl⟩ := hargs
  have h2 : reps (cx0 W W.heap.size) [] [] := by simp only [reps]
  refine ((hK.2 W [] h2).mono fun e W' ⟨v, he, hk, _, hv⟩ => ⟨v, he, ?_⟩)
  simp only [rep] at hv
  subst hv
  have hB := hk.below
  refine ⟨[], [], p ++ [], [], p, [], hW', ?_, ?_, ?_, ?_, fun h => by cases h⟩
  · rw [List.append_nil, hfn, hres]
    exact ⟨[], [], ⟨1, by simp [DataW.trod, Value.cells, hb]⟩, rfl, rfl⟩
  · rw [List.append_nil, hfn, hp]
    exact hA
  · rw [List.append_nil, hfn, hvars]
    rfl
  · exact hB.frame _
end
end Go.Tm

namespace Go.Tm
/-! ## A long run in pieces -/
def headK : Nat → Code → Code
  | 0, .seq a _ => a
  | k + 1, .seq _ b => headK k b
  | _, c => c
def dropK : Nat → Code → Code
  | 0, c => c
  | k + 1, .seq _ b => dropK k b
  | _, c => c

section
variable {call : FuncId → List D → List (Nat × Blk) → Nat → Option Out} {tab : Nat → TI} {pt : Nat → List (Nat × Nat)} {base : Nat}

theorem runC_drop {c : Code} {st st' : St} {ws ws' : List Nat} {R : Option (Ex × St × List Nat)} (i n : Nat) (hc : dropK i c = .seq (headK i c) (dropK (i + 1) c)) (h : runC call tab pt base n (headK i c) st ws = some (.normal, st', ws'))
    (h2 : runC call tab pt base n (dropK (i + 1) c) st' ws' = R) : runC call tab pt base (n + 1) (dropK i c) st ws = R := by
  rw [hc]
  simp only [runC, h]
  exact h2

theorem callX_of_run {ft : Nat → Option Func} {pt : Nat → Nat → List (Nat × Nat)} {LF n K nx : Nat} {args ds : List D} {heap : List (Nat × Blk)} {fn : Func} {c : Code} {st : St} {ws : List Nat} (hft : ft K = some fn) (hb : fn.body = some c) (hl : Nat.ble args.length fn.ntmps = true)
    (hr : runC (callX ft pt tab LF n) tab (pt K) nx LF c ⟨argVars 0 args, reachL heap nx LF (D.idsL args), nx⟩ [] = some (.ret, st, ws)) (hres : resL tab st fn.results.toList = some (ds, true)) :
    callX ft pt tab LF (n + 1) K args heap nx = some (finX (reachL heap nx LF (D.idsL args)) nx st ws LF (resT ds)) := by
  simp only [callX, runF, hft, hb, hl, cond_true, hr, hres]
end
end Go.Tm
