/- Contracts of closed calls that turn nothing, by reckoning. -/
import Derived.Test.YtphfahjdbmnkeaaTmQuick
import Derived.Test.YtphfahjdbmnkeaaTmOwn
namespace Go.Tm
open Go.RowKit Go.WideShapes

def saysD (r : D) (o : Option Out) : Bool := match o with
  | some o => o.met.isEmpty && D.eqb o.d r
  | none => false

theorem callP_closedQ {P : Program} {tab : Nat → TI} (hT : TabOk P tab) (hm : P.follows .mixedOrders = true) {ft : Nat → Option Func} {pt : Nat → Nat → List (Nat × Nat)} (hft : FtOk P ft pt) {LF n : Nat} {K : FuncId} {args : List D} {r : D} (hr : r.ids = []) (hk : okM new1 r = true)
    (h : saysD r (runFQ ft pt tab LF (callXQ ft pt tab LF n) K args [] 0) = true) : CallP P K args r := by
  unfold saysD at h
  split at h
  · rename_i o ho
    simp only [Bool.and_eq_true] at h
    obtain ⟨H, h1, _, _, h4, _⟩ := runFQ_sound hT hm hft (callXQ_sound hT hm hft n) K args [] 0 o ho
    have hH : H = [] := by
      have h5 := h.1
      rw [h4] at h5
      cases H with
      | nil => rfl
      | cons x l => cases h5
    subst hH
    have hd := D.eqb_eq _ _ h.2
    rw [hd] at h1
    exact callP_of_callH hr hk h1
  · cases h
end Go.Tm
