/- What slices.Insert needs: a list whose room is not known; two lists that do not lie over each other. -/
import Derived.Test.YtinlknpgmelicaaTmGive
import Derived.Lib.Overlaps
import Derived.KernelRfl
namespace Go.Tm
open Go.RowKit Go.WideShapes

theorem overs_of {P : Program} {K : FuncId} {fn : Func} {t r : TypeId} (hf : P.funcs[K]? = some fn) (hname : (fn.name == "runtime.NumGoroutine") = false) (hb : fn.body.isNone = true) (hn : Extern.findNext fn = none)
    (he : Extern.find fn = some (Extern.SlicesOverlaps.overlaps #[t, t] #[r])) {ti : TI} (ht : tiChk P t ti = true) (hk : ti.kind = 3) : Overs P K := by
  intro w x y la ca lb cb cx cy Tx Ty hne hs hx hy hz
  obtain ⟨el, j, hu, hj, hj1, hj2, hj3, hj4, _, hel'⟩ := ti_slice ht hk
  subst hel'
  have hsz : ∀ w : World, (sizeOf ti.el).run P w = .ok j.size w := fun w => by simp [sizeOf, typeInfo, hj]
  obtain ⟨xb, xo, xs⟩ := x
  simp only at hs hx hne
  subst hs
  rw [run_callFunc_extern hf hname hb hn he, Go.Lib.run_overlaps_apart w t r ti.el hu j.size hsz ⟨xb, xo, none⟩ y la ca lb cb hne Tx Ty cx.size cy.size (by simp [World.shape?, hx]) (by simp [World.shape?, hy]) hz (by simp [World.frozen?, hx]) (by simp [World.frozen?, hx])]
  rfl

/-- an order of evaluation, reckoned by the edges first -/
theorem schedB_of {ops : Array Oper} {fps : Nat → FP} (h : ((List.range ops.size).all fun i => (List.range i).all fun j => anc ops ops.size i j || okFP (fps j) (fps i)) = true) : schedB ops fps = true := by
  unfold schedB
  rw [← h]
  congr 1
  funext i
  congr 1
  funext j
  rw [Bool.or_comm]

/-- A list up to its block's end, whose room is not known: it has room, and is changed in place, or it has none, and is made anew. -/
theorem callH_cap {P : Program} {K : FuncId} {i k s n m : Nat} {e s' : Nat} {p p' : Bool} {l l' : List D} {post : List D} {H : List (Nat × Blk)} (hH : getL H i = some (.arr e s p l)) (hik : i ≠ k)
    (hin : ∀ c, n ≤ c → m ≤ c → CallH P K (.ref i s 0 n (some c) :: post) H (.ref i s 0 m (some c)) [(i, some (.arr e s' p' l'))] (k, k))
    (hout : ∀ c, n ≤ c → c < m → CallH P K (.ref i s 0 n (some c) :: post) H (.ref k s 0 m none) [(k, some (.arr e s' p' l')), (i, none)] (k, k + 1)) :
    CallH P K (.ref i s 0 n none :: post) H (.ref k s 0 m none) [(k, some (.arr e s' p' l')), (i, none)] (k, k + 1) := by
  have hE : Enters P K := by
    rcases Nat.le_total n m with h | h
    · exact (hin m h (Nat.le_refl _)).1
    · exact (hin n (Nat.le_refl _) h).1
  refine ⟨hE, fun fr w g hp nu vs hM hHs hnw hvs => ?_⟩
  simp only [reps] at hvs
  obtain ⟨v0, vs, rfl, h0, hvs⟩ := hvs
  have h0' := h0
  simp only [rep] at h0
  obtain ⟨q1, ad, cap, rfl, q2, q3, q4, q5, q6⟩ := h0
  obtain ⟨b1, T1, n1, z1, z2, z3⟩ := q5.2 (by simp)
  have hc : rep (cx w g hp) (.ref i s 0 n (some cap)) (.slice ad n cap) := by
    simp only [rep]
    exact ⟨q1, ad, cap, rfl, q2, q3, q4, ⟨fun c h => by cases h; rfl, fun h => by cases h⟩, q6⟩
  have hargs : reps (cx w g hp) (.ref i s 0 n (some cap) :: post) (.slice ad n cap :: vs) := by
    simp only [reps]
    exact ⟨_, _, rfl, hc, hvs⟩
  by_cases hcase : cap < m
  · exact (hout cap q2 hcase).2 fr w g hp nu _ hM hHs hnw hargs
  · refine ((hin cap q2 (by omega)).2 fr w g hp nu _ hM hHs (fun id h1 h2 => by have h1 : k ≤ id := h1; have h2 : id < k := h2; omega) hargs).mono ?_
    rintro ee w' ⟨v, g', he, ha⟩
    have hki : Nat.beq k i = false := beq_ne fun e => hik e.symm
    have hnk : nu k = true := hnw k (Nat.le_refl _) (Nat.lt_succ_self _)
    have hpi : hp i = some (.arr e s p l) := hHs i _ hH
    have hni : nu i = false := by
      cases h : nu i
      · rfl
      · rw [(hM.nw i h).2] at hpi; cases hpi
    have hσi : g'.σ i = some (b1, 0) := (ha.gs i hni).trans z1
    let E0 : En := ⟨w', fr, fun _ => True, g', effN nu (k, k)⟩
    let F0 : FrS := ⟨fun _ => .undef, effH hp [(i, some (.arr e s' p' l'))], effN nu (k, k)⟩
    let a0 : Act := ⟨#[], []⟩
    have hR0 : Rel E0 0 F0 a0 w' g' := ⟨Nat.zero_le _, rfl, fun _ => by simp only [F0, rep], ha.mem, fun _ _ _ _ _ => .inr trivial, Keep.refl _ _, ⟨rfl, rfl⟩, fun _ _ => rfl, fun _ h => h⟩
    have hpi' : effH hp [(i, some (.arr e s' p' l'))] i = some (.arr e s' p' l') := by simp [effH, getL]
    have hnk0 : F0.nu k = true := by
      show effN nu (k, k) k = true
      simp [effN, hnk]
    obtain ⟨r1, _⟩ := Rel.made hR0 (m := k) (blk := .arr e s' p' l') (loc := some (b1, 0)) (kl := some i) (w' := w') hnk0 ((Keep.refl _ w').mono fun _ _ h => h)
      (by rintro b o h; cases h; exact .inr ⟨i, 0, rfl, by show effH hp [(i, some (.arr e s' p' l'))] i ≠ none; rw [hpi']; simp, hσi⟩)
      (by
        intro C hC hle hrf hσ
        rcases ha.mem.hd i _ hpi' with ⟨_, h⟩ | ⟨b', cs, h1, h2, h3, h4⟩
        · have h : g'.σ i = none := h
          rw [hσi] at h; cases h
        · have h1 : g'.σ i = some (b', 0) := h1
          rw [hσi] at h1
          simp only [Option.some.injEq, Prod.mk.injEq] at h1
          obtain ⟨rfl, _⟩ := h1
          exact .inr ⟨b1, cs, hσ, by subst hC; exact h2, h3, elems_le (C := { cx w' g' (effH hp [(i, some (.arr e s' p' l'))]) with rf := !p' }) (C' := { C with rf := !p' }) (le_rf hle rfl _ _ id) _ _ _ _ (by subst hC; rfl) h4⟩)
    have hhp : effH (effH hp [(i, some (.arr e s' p' l'))]) ((k, some (.arr e s' p' l')) :: kill (some i)) = effH hp [(k, some (.arr e s' p' l')), (i, none)] := by
      funext x
      simp only [effH, kill, getL]
      cases h1 : Nat.beq k x
      · cases h2 : Nat.beq i x <;> simp
      · simp
    have hnn : effN (effN nu (k, k)) (k, k + 1) = effN nu (k, k + 1) := by
      funext x
      simp only [effN]
      have : (decide (k ≤ x) && decide (x < k)) = false := by
        cases hx : decide (k ≤ x) <;> simp at hx ⊢
        omega
      rw [this]; simp
    have hmem := r1.mem
    simp only [FrS.eff, F0] at hmem
    rw [hhp, hnn] at hmem
    have hpk : effH hp [(k, some (.arr e s' p' l')), (i, none)] i = none := by simp [effH, getL, hki]
    refine ⟨v, setσ g' k (some (b1, 0)), he, ha.gz, fun id hid => ?_, ha.keep, hmem, ?_, ?_⟩
    · have : id ≠ k := by rintro rfl; rw [hnk] at hid; cases hid
      show (if id = k then _ else g'.σ id) = g.σ id
      rw [if_neg this]
      exact ha.gs id hid
    · rintro b0 ⟨id, o, h1, h2⟩
      have h2 : (if id = k then some (b1, 0) else g'.σ id) = some (b0, o) := h2
      by_cases hidk : id = k
      · rw [if_pos hidk] at h2
        simp only [Option.some.injEq, Prod.mk.injEq] at h2
        obtain ⟨rfl, rfl⟩ := h2
        exact ha.own b1 ⟨i, 0, by rw [hpi']; simp, hσi⟩
      · rw [if_neg hidk] at h2
        by_cases hidi : id = i
        · subst hidi
          rw [hpk] at h1
          exact absurd rfl h1
        · refine ha.own b0 ⟨id, o, ?_, h2⟩
          have a1 : Nat.beq k id = false := beq_ne fun e => hidk e.symm
          have a2 : Nat.beq i id = false := beq_ne fun e => hidi e.symm
          simp only [effH, getL, a1, a2] at h1 ⊢
          exact h1
    · have hres := ha.res
      simp only [rep] at hres ⊢
      obtain ⟨_, ad', cap', hv, k1, k2, k3, k4, k5⟩ := hres
      have hcc := k4.1 cap rfl
      subst hcc
      have hsh : w'.shape? b1 = some (T1, n1) := by
        have := ha.keep.shp b1 (shape_lt (w := w) z2)
        rw [this]; exact z2
      refine ⟨by simp [cx], ad', cap', hv, k1, k2, k3, ⟨(fun c h => by cases h), fun _ => ⟨b1, T1, n1, by simp [cx, setσ], hsh, by omega⟩⟩, ?_⟩
      rcases k5 with k5 | ⟨b, T, nn, y1, y2, y3, y4⟩
      · exact .inl k5
      · have y1 : g'.σ i = some (b, 0) := y1
        rw [hσi] at y1
        simp only [Option.some.injEq, Prod.mk.injEq] at y1
        obtain ⟨rfl, _⟩ := y1
        exact .inr ⟨b1, T, nn, by simp [cx, setσ], y2, y3, y4⟩
end Go.Tm
