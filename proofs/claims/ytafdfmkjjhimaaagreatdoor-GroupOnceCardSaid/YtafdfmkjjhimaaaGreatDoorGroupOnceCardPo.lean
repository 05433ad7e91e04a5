/- Texts of the proof. -/
import Derived.WideKeyArgs
import Derived.ChangeSame
import Derived.ChangeArms
import Derived.OpenShut
import Derived.Carry
import Derived.SizedLaws
import Derived.Test.YtafdfmkjjhimaaaGreatDoorRows
import Derived.WalkKit
import Derived.ProofKit
import Derived.Test.YtafdfmkjjhimaaaGreatDoorGroupOnceCardPn
import Derived.Test.YtafdfmkjjhimaaaGreatDoorGroupOnceCardPm
import Derived.Test.YtafdfmkjjhimaaaGreatDoorGroupOnceCardPf
section
namespace Go.Proofs
open Go.Tm
set_option linter.unusedVariables false
open Classical
structure HOk (h : THome) : Prop where
 v : V h.Skeen
 s : StOk h.Stream
 l : (h.Last.length : Int) = 6
 x : ∀ x ∈ h.Last, 0 <= x /\ x <= 1048576
def zHo : THome := ⟨⟨0, [], []⟩, ⟨[], []⟩, []⟩
theorem gc1 (x : Int) : zfs x = some (decide (x < 0) || decide (x > 1048576)) := rfl
theorem ya25 (h : THome) : zei h = some (if HOk h then 0 else 8) := by
 unfold zei
 obtain ⟨e, he, hi⟩ := zw7 h.Skeen
 rw [he, ya1z, anyI _ _ gc1]
 simp only [Option.bind_some]
 by_cases hv : e = 0
 simp only [hv, not_true_eq_false, not_false_eq_true, if_true, Option.bind_some, false_or]
 by_cases hs : StOk h.Stream
 simp only [hs, if_true, not_true_eq_false, false_or]
 by_cases hl : (h.Last.length : Int) = 6
 simp only [hl, not_true_eq_false, not_false_eq_true, if_true, Option.bind_some, false_or]
 by_cases hx : ∀ x ∈ h.Last, 0 <= x /\ x <= 1048576
 have ea : (h.Last.any fun x => decide (x < 0) || decide (x > 1048576)) = false := by
  rw [List.any_eq_false]; intro x hm; have := hx x hm; simp; omega
 rw [ea, if_neg (by decide), if_pos ⟨hi.1 hv, hs, hl, hx⟩]
 have ea : (h.Last.any fun x => decide (x < 0) || decide (x > 1048576)) = true := by
  rw [List.any_eq_true]
  apply Classical.byContradiction
  intro hno
  exact hx fun x hm => Classical.byContradiction fun hh => hno ⟨x, hm, by simp; omega⟩
 rw [ea, if_pos rfl, if_neg (fun hh => hx hh.x)]
 simp only [hl, not_true_eq_false, not_false_eq_true, if_false, Option.bind_some, true_or, if_true]
 rw [if_neg (fun hh => hl hh.l)]
 simp only [hs, if_false]
 rw [if_neg (by simp)]
 simp only [Option.bind_some]
 rw [if_pos (by simp), if_neg (fun hh => hs hh.s)]
 simp only [hv, not_false_eq_true, not_true_eq_false, if_false, Option.bind_some, true_or, if_true]
 rw [if_neg (fun hh => hv (hi.2 hh.v))]
theorem ya63 {h : THome} (k : HOk h) : zhp h = some h := by
 have hlw := k.v.lw; have hld := k.v.ld
 have htw : zeh h.Skeen = some h.Skeen := zym h.Skeen (by omega) (by omega) (fun w hw => by have := (k.v.j.w.1 w hw).1.groups; omega)
 unfold zhp
 rw [htw, ya2k k.s, zr3 _ (by have := k.l; omega)]
 rfl
theorem zlc {α : Type} (d : α) {b : List α} {y : α} {r : List α} {n : Nat} (h : y :: r = b.drop n) : n < b.length /\ b.getD n d = y /\ r = b.drop (n + 1) := by
 have hn : n < b.length := Classical.byContradiction fun hh => by rw [List.drop_eq_nil_of_le (by omega)] at h; cases h
 rw [List.drop_eq_getElem_cons hn] at h
 obtain ⟨rfl, rfl⟩ := List.cons.inj h
 exact ⟨hn, by simp [List.getD_eq_getElem?_getD, hn], rfl⟩
theorem zx2 (b : List TStamp) : ∀ (l : List TStamp) (n : Nat), l = b.drop n -> zas b l n = some (.inr ())
 | [], _, _ => rfl
 | y :: r, n, h => by
  obtain ⟨h1, h2, h3⟩ := zlc default h
  simp only [zas]
  rw [if_pos h1, h2, if_neg (by simp)]
  exact zx2 b r (n + 1) h3
theorem zx4 (b : List TEntry) : ∀ (l : List TEntry) (n : Nat), l = b.drop n -> zat b l n = some (.inr ())
 | [], _, _ => rfl
 | y :: r, n, h => by
  obtain ⟨h1, h2, h3⟩ := zlc default h
  simp only [zat]
  rw [if_pos h1, h2, if_neg (by simp)]
  exact zx4 b r (n + 1) h3
theorem zx0 (f : TWait -> TWait -> Option Bool) (hf : ∀ x, f x x = some true) (b : List TWait) : ∀ (l : List TWait) (n : Nat), l = b.drop n -> zae b f l n = some (.inr ())
 | [], _, _ => rfl
 | y :: r, n, h => by
  obtain ⟨h1, h2, h3⟩ := zlc default h
  simp only [zae]
  rw [if_pos h1, h2, hf]
  simp only [Option.bind_some, not_true_eq_false, if_false]
  exact zx0 f hf b r (n + 1) h3
theorem zx1 (f : TTopic -> TTopic -> Option Bool) (hf : ∀ x, f x x = some true) (b : List TTopic) : ∀ (l : List TTopic) (n : Nat), l = b.drop n -> zaa b f l n = some (.inr ())
 | [], _, _ => rfl
 | y :: r, n, h => by
  obtain ⟨h1, h2, h3⟩ := zlc default h
  simp only [zaa]
  rw [if_pos h1, h2, hf]
  simp only [Option.bind_some, not_true_eq_false, if_false]
  exact zx1 f hf b r (n + 1) h3
theorem zx3 (f : List Int -> List Int -> Option Bool) (hf : ∀ x, f x x = some true) (b : List (List Int)) : ∀ (l : List (List Int)) (n : Nat), l = b.drop n -> zag b f l n = some (.inr ())
 | [], _, _ => rfl
 | y :: r, n, h => by
  obtain ⟨h1, h2, h3⟩ := zlc default h
  simp only [zag]
  rw [if_pos h1, h2, hf]
  simp only [Option.bind_some, not_true_eq_false, if_false]
  exact zx3 f hf b r (n + 1) h3
theorem ya0r (s : TSkeen) : zho s s = some true := by
 unfold zho zd3 zbh
 rw [zx2 s.Done s.Done 0 rfl, zx0 zff (fun x => by simp [zff, ya4l]) s.Waits s.Waits 0 rfl]
 simp
theorem ya0o (t : TTopic) : zfo t t = some true := by
 unfold zfo zd4
 rw [zx4 t.Entries t.Entries 0 rfl]
 simp
theorem ya1o (c : List (List Int)) : zgc c c = some true := by
 unfold zgc zbq
 rw [zx3 zea (fun x => by simp [zea, zp7]) c c 0 rfl]
 simp
theorem ya0q (s : TStream) : zgr s s = some true := by
 unfold zgr zb7
 rw [zx1 zfo ya0o s.Topics s.Topics 0 rfl, ya1o]
 simp
theorem zvf (h : THome) : zdx h h = some true := by
 unfold zdx
 rw [ya0r, ya0q, zp7]
 simp
theorem zvr (c : TCommand) (h : zbp c = some 0) (hk : 4 <= c.Kind) : IdOk c.Id := by
 by_cases hi : IdOk c.Id
 exact hi
 exfalso
 rw [zbp, zev, zxc] at h
 have k0 : ¬ c.Kind = 0 := by omega
 have k1 : ¬ c.Kind = 1 := by omega
 have k2 : ¬ c.Kind = 2 := by omega
 have k3 : ¬ c.Kind = 3 := by omega
 simp only [hi, k0, k1, k2, k3, decide_false, Bool.false_eq_true, if_false, false_and, Option.bind_some, Bool.false_and] at h
 by_cases k4 : c.Kind = 4
 simp [k4] at h
 by_cases k5 : c.Kind = 5
 simp [k5] at h
 by_cases k6 : c.Kind = 6
 simp [k6] at h
 simp [k4, k5, k6] at h
theorem of_eq (x : Int) (h : IdOk x) : zjw x = some (x / 1048576, x % 1048576, 0) /\ 0 <= x / 1048576 /\ x / 1048576 < 6 /\ 0 <= x % 1048576 /\ x % 1048576 < 1048576 := by
 unfold IdOk at h
 have a1 : x.tdiv 1048576 = x / 1048576 := Int.tdiv_eq_ediv_of_nonneg h.1
 have a2 : x.tmod 1048576 = x % 1048576 := Int.tmod_eq_emod_of_nonneg h.1
 unfold zjw
 rw [if_neg (by omega), a1, a2, wrk _ (by omega)]
 exact ⟨rfl, by omega, by omega, by omega, by omega⟩
def at6 (h : THome) (x : Int) : Int := h.Last.getD (x / 1048576).toNat default
theorem HOk.put {h : THome} (k : HOk h) (s : TStream) (hs : StOk s) (i : Nat) (hi : i < 6) (v : Int) (hv : 0 <= v /\ v <= 1048576) : HOk ⟨h.Skeen, s, h.Last.set i v⟩ := by
 refine ⟨k.v, hs, by show ((h.Last.set i v).length : Int) = 6; rw [List.length_set]; exact k.l, fun x hx => ?_⟩
 rcases zq6 hx with rfl | hx
 exact hv
 exact k.x x hx
theorem zwh (h : THome) (k : HOk h) (c : TCommand) (hi : IdOk c.Id) : ∃ h', zc9 ⟨h⟩ c = some ⟨h'⟩ /\ HOk h' /\ at6 h' c.Id > c.Id % 1048576 /\ (at6 h c.Id > c.Id % 1048576 -> h' = h) := by
 obtain ⟨e, o1, o2, o3, o4⟩ := of_eq c.Id hi
 have hl := k.l
 unfold zc9
 rw [e]
 simp only [Option.bind_some]
 rw [if_pos (by omega)]
 by_cases hc : h.Last.getD (c.Id / 1048576).toNat default > c.Id % 1048576
 rw [if_pos hc]
 exact ⟨h, rfl, k, hc, fun _ => rfl⟩
 rw [if_neg hc, if_pos (by omega)]
 obtain ⟨r, er, h1, h2⟩ := ya67 h.Stream c
 rw [er, wrk _ (by omega)]
 simp only [Option.bind_some]
 have hg : ∀ s : TStream, at6 ⟨h.Skeen, s, h.Last.set (c.Id / 1048576).toNat (c.Id % 1048576 + 1)⟩ c.Id > c.Id % 1048576 := by
  intro s
  show (h.Last.set (c.Id / 1048576).toNat (c.Id % 1048576 + 1)).getD (c.Id / 1048576).toNat default > _
  rw [zp6 _ _ _ _ _ (by omega), if_pos rfl]
  omega
 by_cases h0 : r.2 = 0
 rw [if_pos h0]
 exact ⟨_, rfl, k.put _ (h1 h0) _ (by omega) _ (by omega), hg _, fun hh => absurd hh hc⟩
 rw [if_neg h0]
 exact ⟨_, rfl, k.put _ k.s _ (by omega) _ (by omega), hg _, fun hh => absurd hh hc⟩
theorem zvo : ∀ (ms : List TMessage) (l4 : List TTopic) (l5 : List (List Int)) (l6 : List TTook), StOk ⟨l4, l5⟩ -> l6.length + ms.length < 1000000 ->
  ∃ a b c, zbc ms l4 l5 l6 = some (a, b, c) /\ StOk ⟨a, b⟩
 | [], l4, l5, l6, h, _ => ⟨l4, l5, l6, rfl, h⟩
 | y :: r, l4, l5, l6, h, hl => by
  simp only [List.length_cons] at hl
  rw [zfl]
  obtain ⟨z, e, h1, h2⟩ := ya4r ⟨l4, l5⟩ y
  rw [e]
  simp only [Option.bind_some]
  by_cases h0 : z.2.2 = 0
  rw [if_neg (by omega), if_pos (by simp only [List.length_cons, List.length_nil]; omega)]
  simp only [Option.bind_some]
  exact zvo r _ _ _ (h1 h0).2.2.1 (by simp only [List.length_append, List.length_cons, List.length_nil]; omega)
  rw [if_pos h0]
  simp only [Option.bind_some]
  exact zvo r _ _ _ h (by omega)
theorem ya68 (h : THome) (k : HOk h) (ms : List TMessage) (hl : ms.length < 1000000) : ∃ tk h', zdr ⟨h⟩ ms = some (tk, ⟨h'⟩) /\ HOk h' := by
 obtain ⟨a, b, c, e, hs⟩ := zvo ms h.Stream.Topics h.Stream.Commits [] k.s (by simpa using hl)
 unfold zdr
 rw [e]
 exact ⟨c, ⟨h.Skeen, ⟨a, b⟩, h.Last⟩, rfl, k.v, hs, k.l, k.x⟩
theorem ya59 (h : THome) (k : HOk h) (g : Int) (c : TCommand) (hc : zbp c = some 0) : ∃ tk e h', zfr ⟨h⟩ g c = some (tk, e, ⟨h'⟩) /\ (∀ x, e = some x -> x.2 ≠ 0) /\ (e = none -> HOk h') /\
  (4 <= c.Kind -> tk = [] /\ e = none /\ zc9 ⟨h⟩ c = some ⟨h'⟩) := by
 unfold zfr
 by_cases hk : c.Kind >= 4
 rw [if_pos hk]
 obtain ⟨h', e, h1, _⟩ := zwh h k c (zvr c hc hk)
 rw [e]
 exact ⟨[], none, h', rfl, (by intro x hx; cases hx), fun _ => h1, fun _ => ⟨rfl, rfl, rfl⟩⟩
 rw [if_neg hk]
 rcases ya1u h.Skeen g c k.v with ⟨e, he, ha, _⟩ | ⟨W, ck, ws, W', _, ha, hv, _⟩
 rw [ha]
 simp only [Option.bind_some]
 rw [if_pos he]
 unfold zdw
 rw [if_neg he]
 exact ⟨_, _, _, rfl, (by intro x hx; cases hx; exact he), (fun h => by cases h), fun hh => absurd hh hk⟩
 rw [ha]
 simp only [Option.bind_some]
 rw [if_neg (by simp)]
 have hld := hv.ld
 simp only [List.length_append, List.length_map] at hld
 obtain ⟨tk, h', e, h1⟩ := ya68 ⟨⟨ck, W', h.Skeen.Done ++ ws.map stW⟩, h.Stream, h.Last⟩ ⟨hv, k.s, k.l, k.x⟩ (ws.map TWait.Message) (by rw [List.length_map]; omega)
 rw [e]
 exact ⟨tk, none, h', rfl, (by intro x hx; cases hx), fun _ => h1, fun hh => absurd hh hk⟩
theorem ya09 (h : THome) (g : Int) (c : TCommand) : ∃ h' tk e, zde h g c = some (h', tk, e) /\ (e ≠ 0 -> h' = zHo /\ tk = []) /\
  (e = 0 -> HOk h /\ (0 <= g /\ g < 4) /\ zbp c = some 0 /\ HOk h' /\ (4 <= c.Kind -> tk = [] /\ zc9 ⟨h⟩ c = some ⟨h'⟩)) /\
  (HOk h -> 0 <= g /\ g < 4 -> zbp c = some 0 -> 4 <= c.Kind -> e = 0) := by
 unfold zde zi7
 rw [ya25]
 simp only [Option.bind_some]
 by_cases hh : HOk h
 rw [if_pos hh]
 unfold zdw
 rw [if_pos rfl]
 simp only [Option.bind_some]
 unfold zi6
 by_cases hg : g < 0 \/ g >= 4
 rw [if_pos hg]
 unfold zdw
 rw [if_neg (by decide)]
 exact ⟨_, _, _, rfl, fun _ => ⟨rfl, rfl⟩, fun h => absurd h (by decide), fun _ a => absurd hg (by omega)⟩
 rw [if_neg hg]
 simp only [Option.bind_some]
 obtain ⟨e, he, _⟩ := ya04 c
 rw [he]
 simp only [Option.bind_some]
 by_cases h0 : e = 0
 subst h0
 rw [if_pos rfl]
 simp only [Option.bind_some]
 rw [ya63 hh]
 simp only [Option.bind_some]
 obtain ⟨tk, er, h', ed, d1, d2, d3⟩ := ya59 h hh g c he
 rw [ed]
 simp only [Option.bind_some]
 cases er with
 | none =>
  refine ⟨h', tk, 0, rfl, fun h => absurd rfl h, fun _ => ⟨hh, by omega, (by first | rfl | trivial), d2 rfl, fun k => ⟨(d3 k).1, (d3 k).2.2⟩⟩, fun _ _ _ _ => rfl⟩
 | some x =>
  refine ⟨zHo, [], x.2, rfl, fun _ => ⟨rfl, rfl⟩, fun h => absurd h (d1 x rfl), fun _ _ _ k => ?_⟩
  have := (d3 k).2.1
  cases this
 rw [if_neg h0]
 exact ⟨_, _, _, rfl, fun _ => ⟨rfl, rfl⟩, fun h => absurd h h0, fun _ _ a => absurd (sj a) h0⟩
 rw [if_neg hh]
 unfold zdw
 rw [if_neg (by decide)]
 exact ⟨_, _, _, rfl, fun _ => ⟨rfl, rfl⟩, fun h => absurd h (by decide), fun a => absurd a hh⟩
theorem zu7 (t : TTopic) (hl : t.Entries.length <= 140737488355328) : ∀ (fu k : Nat) (n2 : Int), t.Entries.length - k < fu -> k <= t.Entries.length -> ∃ r, zaw t fu n2 (k : Int) = some r
 | 0, k, n2, h, _ => by omega
 | fu + 1, k, n2, h, hk => by
  simp only [zaw]
  by_cases hc : (k : Int) < (t.Entries.length : Int) /\ n2 <= 100000
  rw [if_pos hc, if_pos (by omega), wrk ((k : Int) + 1) (by omega)]
  exact zu7 t hl fu (k + 1) _ (by omega) (by omega)
  rw [if_neg hc]; exact ⟨_, rfl⟩
theorem ya3a (t : TTopic) (hl : t.Entries.length <= 140737488355328) : ∃ r, zda t = some r := by
 obtain ⟨r, e⟩ := zu7 t hl (t.Entries.length + 1) 0 0 (by omega) (by omega)
 have e' : zaw t (t.Entries.length + 1) 0 0 = some r := e
 unfold zda
 rw [e']
 exact ⟨_, rfl⟩
theorem ya39 (c : List (List Int)) : ∃ r, zd9 c = some r := by
 have : ∀ (l : List (List Int)) (n : Int), ∃ r, zb5 l n = some r := by
  intro l
  induction l with
  | nil => intro n; exact ⟨_, rfl⟩
  | cons y r ih => intro n; rw [zdi]; split; exact ih _; exact ⟨_, rfl⟩
 obtain ⟨r, e⟩ := this c 0
 unfold zd9
 rw [e]; exact ⟨_, rfl⟩
theorem ya3b (s : TSkeen) : ∃ r, zdb s = some r := by
 have : ∀ (l : List TWait) (k : Nat) (n : Int), ∃ r, zb6 l k n = some r := by
  intro l
  induction l with
  | nil => intro k n; exact ⟨_, rfl⟩
  | cons y r ih => intro k n; rw [zdj]; split; exact ih _ _; exact ⟨_, rfl⟩
 obtain ⟨r, e⟩ := this s.Waits 0 0
 unfold zdb
 rw [e]; exact ⟨_, rfl⟩
theorem zu6 (s : TStream) (hs : ∀ t ∈ s.Topics, t.Entries.length <= 140737488355328) : ∀ (fu k : Nat), 50 - k < fu -> k <= 50 -> ∃ r, zav s fu (k : Int) = some r
 | 0, k, h, _ => by omega
 | fu + 1, k, h, hk => by
  simp only [zav]
  by_cases hc : (k : Int) < (s.Topics.length : Int) /\ (k : Int) < 50
  rw [if_pos hc, if_pos (by omega)]
  obtain ⟨b, e⟩ := ya3a (s.Topics.getD ((k : Int)).toNat default) (hs _ (zkk _ _ _ (by omega)))
  rw [e]
  simp only [Option.bind_some]
  split
  exact ⟨_, rfl⟩
  rw [wrk ((k : Int) + 1) (by omega)]
  exact zu6 s hs fu (k + 1) (by omega) (by omega)
  rw [if_neg hc]; exact ⟨_, rfl⟩
theorem ya38 (s : TStream) (hs : ∀ t ∈ s.Topics, t.Entries.length <= 140737488355328) : ∃ r, zd8 s = some r := by
 obtain ⟨r, e⟩ := zu6 s hs 51 0 (by omega) (by omega)
 have e' : zav s 51 0 = some r := e
 obtain ⟨g, eg⟩ := ya39 s.Commits
 unfold zd8
 rw [e', eg]
 cases r with
 | inl x => exact ⟨_, rfl⟩
 | inr x =>
  simp only [Option.bind_some]
  by_cases h : ¬ ((s.Topics.length : Int) > 50)
  rw [if_pos h]; exact ⟨_, rfl⟩
  rw [if_neg h]; exact ⟨_, rfl⟩
theorem ya37 (h : THome) (hs : ∀ t ∈ h.Stream.Topics, t.Entries.length <= 140737488355328) : ∃ r, zd7 h = some r := by
 obtain ⟨a, ea⟩ := ya3b h.Skeen
 obtain ⟨b, eb⟩ := ya38 h.Stream hs
 unfold zd7
 rw [ea, eb]
 simp only [Option.bind_some]
 by_cases k : ¬ (a = true)
 rw [if_pos k]; exact ⟨_, rfl⟩
 rw [if_neg k]; exact ⟨_, rfl⟩
theorem ya40 : ze3 = some true := by decide +kernel
theorem ya4u (a0 : THome) (a1 : Int) (a2 a3 : TCommand) (hs : ∀ t ∈ a0.Stream.Topics, t.Entries.length <= 140737488355328) : zd1 a0 a1 a2 a3 = some true := by
 unfold zd1
 obtain ⟨v2, e2⟩ := ya37 a0 hs
 rw [ya40]
 simp only [Option.bind_some]
 rw [if_pos trivial, e2]
 simp only [Option.bind_some]
 obtain ⟨v3, e3⟩ : ∃ v3, (if ¬ (v2 = true) then zcg a2 else some default) = some v3 := by
  split
  exact ⟨_, rfl⟩
  exact ⟨_, rfl⟩
 obtain ⟨v4, e4⟩ : ∃ v4, (if ¬ ((v2 = true) \/ (v3 = true)) then zcg a3 else some default) = some v4 := by
  split
  exact ⟨_, rfl⟩
  exact ⟨_, rfl⟩
 rw [e3]
 simp only [Option.bind_some]
 rw [e4]
 simp only [Option.bind_some]
 split
 rfl
 obtain ⟨h5, k5, x5, p5, n5, o5, t5⟩ := ya09 a0 a1 a2
 rw [p5]
 simp only [Option.bind_some]
 by_cases h0 : x5 = 0
 case neg =>
  obtain ⟨rfl, rfl⟩ := n5 h0
  rw [if_pos h0, if_pos (show ((([] : List TTook).length : Nat) : Int) = 0 from rfl)]
  have : zdx zHo (⟨(⟨0, [], []⟩ : TSkeen), (⟨[], []⟩ : TStream), []⟩ : THome) = some true := zvf zHo
  rw [this]
  rfl
 rw [if_neg (fun h => h h0)]
 obtain ⟨q1, q2, q3, q4, q5⟩ := o5 h0
 have g5 : zei h5 = some 0 := by rw [ya25, if_pos q4]
 rw [g5]
 by_cases hk : a2.Kind < 4
 rw [if_neg (fun h => h hk)]
 simp only [Option.bind_some]
 rw [if_pos (.inl hk)]
 rfl
 rw [if_pos hk]
 simp only [Option.bind_some]
 rw [if_neg (by simpa using hk)]
 obtain ⟨rfl, r5⟩ := q5 (by omega)
 have hi := zvr a2 q3 (by omega)
 obtain ⟨h', f1, f2, f3, f4⟩ := zwh a0 q1 a2 hi
 rw [r5] at f1
 obtain rfl : h5 = h' := by injection f1 with f1; injection f1
 obtain ⟨h9, k9, x9, p9, n9, o9, t9⟩ := ya09 h5 a1 a2
 rw [p9]
 simp only [Option.bind_some]
 have x90 : x9 = 0 := t9 q4 q2 q3 (by omega)
 subst x90
 obtain ⟨-, -, -, -, z9⟩ := o9 rfl
 obtain ⟨rfl, r9⟩ := z9 (by omega)
 obtain ⟨h', y1, y2, y3, y4⟩ := zwh h5 q4 a2 hi
 rw [r9] at y1
 obtain rfl : h9 = h' := by injection y1 with y1; injection y1
 obtain rfl := y4 f3
 simp only [not_true_eq_false, List.length_nil, Int.natCast_zero, gt_iff_lt, Int.lt_irrefl, or_self, not_false_eq_true, if_true, zvf, Option.bind_some, if_false]
 obtain ⟨h11, k11, x11, p11, n11, o11, t11⟩ := ya09 h9 a1 a3
 rw [p11]
 simp only [Option.bind_some]
 split
 rfl
 rename_i hc
 have c1 : x11 = 0 := Classical.byContradiction fun h => hc (.inl (.inl (.inl h)))
 have c2 : ¬ a3.Kind < 4 := fun h => hc (.inl (.inl (.inr h)))
 have c3 : wr .i64 (a3.Id.tdiv 1048576) = wr .i64 (a2.Id.tdiv 1048576) := Classical.byContradiction fun h => hc (.inl (.inr h))
 have c4 : ¬ a3.Id > a2.Id := fun h => hc (.inr h)
 obtain ⟨-, -, s3, -, s5⟩ := o11 c1
 obtain ⟨-, r11⟩ := s5 (by omega)
 have hi3 := zvr a3 s3 (by omega)
 obtain ⟨h', w1, w2, w3, w4⟩ := zwh h9 q4 a3 hi3
 rw [r11] at w1
 obtain rfl : h11 = h' := by injection w1 with w1; injection w1
 have d2 : wr .i64 (a2.Id.tdiv 1048576) = a2.Id / 1048576 := by
  unfold IdOk at hi
  rw [Int.tdiv_eq_ediv_of_nonneg hi.1, wrk _ (by omega)]
 have d3 : wr .i64 (a3.Id.tdiv 1048576) = a3.Id / 1048576 := by
  unfold IdOk at hi3
  rw [Int.tdiv_eq_ediv_of_nonneg hi3.1, wrk _ (by omega)]
 have : h11 = h9 := by
  refine w4 ?_
  unfold at6 at f3 ⊢
  rw [<- d3, c3, d2]
  rw [d2, d3] at c3
  unfold IdOk at hi hi3
  omega
 subst this
 rw [zvf]
 rfl
end Go.Proofs
end
section
namespace Go.Tm
open Go.RowKit Go.WideShapes Go.ChangeShapes
def aggT (P : Program) (t : TypeId) : Bool := match P.underlying t with
 | some (.struct _) => true
 | _ => false
def mkD (P : Program) (t : TypeId) (l : List D) : D := bif aggT P t then .agg l else l.headD .undef
def zkl (P : Program) (chk : TypeId -> Bool) : Nat -> List Field -> Nat -> Bool
 | off, [], tot => Nat.beq off tot
 | off, f :: fs, tot => Nat.beq f.offset off && chk f.type && zkl P chk (off + P.cellsOf f.type) fs tot
def zr1 (P : Program) : Nat -> TypeId -> Bool
 | 0, _ => false
 | n + 1, t => match P.underlying t with
  | some .bool => true
  | some (.int _) => true
  | some .string => true
  | some (.slice e) => zr1 P n e && Nat.blt 0 (P.cellsOf e) && (aggT P e || Nat.beq (P.cellsOf e) 1)
  | some (.struct fs) => zkl P (zr1 P n) 0 fs.toList (P.cellsOf t)
  | _ => false
def zpf (p : TypeId -> List D -> Prop) : List TypeId -> List D -> Prop
 | [], l => l = []
 | t :: ts, l => ∃ l1 l2, l = l1 ++ l2 /\ p t l1 /\ zpf p ts l2
theorem zol {C : Cx} : ∀ {l1 l2 : List D} {v1 v2 : List Value}, reps C l1 v1 -> reps C l2 v2 -> reps C (l1 ++ l2) (v1 ++ v2)
 | [], l2, v1, v2, h1, h2 => by simp only [reps] at h1; subst h1; simpa using h2
 | d :: ds, l2, v1, v2, h1, h2 => by
  simp only [reps] at h1
  obtain ⟨v, vs, rfl, hd, h1⟩ := h1
  simp only [List.cons_append, reps]
  exact ⟨v, vs ++ v2, rfl, hd, zol h1 h2⟩
theorem zx7 {C : Cx} {b s : Nat} {p : List D -> Prop} {f : List D -> D} : ∀ (n o : Nat), (∀ i, i < n -> ∃ l v, p l /\ rep C (f l) v /\ v.cells.size = s /\ v.cells.toList.all (·.oneCell') = true /\ C.w.rangeAt b (o + i * s) v.cells.toList) ->
  ∃ xs : List (List D), xs.length = n /\ elems C (xs.map f) b o s /\ ∀ x ∈ xs, p x
 | 0, o, _ => ⟨[], rfl, by simp only [List.map_nil, elems], by simp⟩
 | n + 1, o, h => by
  obtain ⟨l, v, h1, h2, h3, h4, h5⟩ := h 0 (by omega)
  obtain ⟨xs, g1, g2, g3⟩ := zx7 n (o + s) (fun i hi => by
   obtain ⟨l, v, h1, h2, h3, h4, h5⟩ := h (i + 1) (by omega)
   exact ⟨l, v, h1, h2, h3, h4, by rwa [show o + (i + 1) * s = o + s + i * s by rw [Nat.add_mul]; omega] at h5⟩)
  refine ⟨l :: xs, by simp [g1], ?_, by simpa using ⟨h1, g3⟩⟩
  simp only [List.map_cons, elems]
  exact ⟨⟨v, h2, h3, h4, by simpa using h5⟩, g2⟩
theorem zqs {P : Program} {chk : TypeId -> Bool} : ∀ (fs : List Field) (off tot : Nat), zkl P chk off fs tot = true -> off <= tot
 | [], off, tot, h => Nat.le_of_eq (nb h)
 | f :: fs, off, tot, h => by
  simp only [zkl, Bool.and_eq_true] at h
  have := zqs fs _ _ h.2
  omega
section
variable {H : Type} {enc : TypeId × Value -> H} {P : Program} {w : World} {sp : Nat -> Bool}
theorem zmo (hl : laidOutB P = true) {W W' : World} (hB : Below W.heap.size W W') {sp' : Nat -> Bool} : ∀ {ts : List TypeId} {vs : List Value} {ds : List (DataW H)} {ps : List MemPlace}, (ts.all fun t => P.readableRec t && Nat.blt t P.types.size) = true ->
  DataW.TrodAll enc P W 0 (fun _ => true) true ts vs ds ps -> (∀ p ∈ ps, p.block < W.heap.size /\ sp' p.block = true) -> DataW.TrodAll enc P W' 0 sp' true ts vs ds ps
 | [], [], [], _, _, h, _ => h
 | t :: ts, v :: vs, d :: ds, ps, hr, h, hp => by
  obtain ⟨p, q, h1, h2, rfl⟩ := h
  simp only [List.all_cons, Bool.and_eq_true] at hr
  refine ⟨p, q, WideElems.Trod_stays hl hr.1.1 (lb hr.1.2) h1 (fun x hx => hB.same (hp x (by simp [hx])).1) (fun x hx => (hp x (by simp [hx])).2), ?_, rfl⟩
  exact zmo hl hB hr.2 h2 fun x hx => hp x (by simp [hx])
 | [], _ :: _, _, _, _, h, _ => h.elim
 | [], [], _ :: _, _, _, h, _ => h.elim
 | _ :: _, [], _, _, _, h, _ => h.elim
 | _ :: _, _ :: _, [], _, _, h, _ => h.elim
end
section
variable {P : Program} {n : Nat} {t : TypeId} {l : List D}
theorem zjn {d : D} (ha : aggT P t = false) : mkD P t [d] = d := by simp only [mkD, ha, cond_false, List.headD_cons]
theorem zny (ha : aggT P t = true) : mkD P t l = .agg l := by simp only [mkD, ha, cond_true]
theorem zai {p : TypeId -> List D -> Prop} {ts : List TypeId} (h : zpf p (t :: ts) l) : ∃ l1 l2, l = l1 ++ l2 /\ p t l1 /\ zpf p ts l2 := h
theorem zfw {p : TypeId -> List D -> Prop} (h : zpf p [] l) : l = [] := h
end
end Go.Tm
end
section
namespace Go.Tm
open Go.RowKit Go.WideShapes
def zch (P : Program) : Nat -> TypeId -> List D -> Prop
 | 0, _, _ => False
 | n + 1, t, l => match P.underlying t with
  | some .bool => ∃ b, l = [.bool b]
  | some (.int k) => ∃ m, l = [.int k m]
  | some .string => ∃ s, l = [.str s]
  | some (.slice e) => ∃ xs : List (List D), l = [.imm (P.cellsOf e) (xs.map (mkD P e)) 4] /\ xs.length * P.bytesOf e <= 140737488355328 /\ ∀ x ∈ xs, zch P n e x
  | some (.struct fs) => zpf (zch P n) (fs.toList.map (·.type)) l
  | _ => False
section
variable {H : Type} {enc : TypeId × Value -> H} {P : Program} {w : World} {sp : Nat -> Bool}
theorem zm0 {e : TypeId} {k : Nat} : ∀ {l : List (DataW H)} {d : DataW H}, d ∈ l -> k ∈ DataW.weights P e d -> k ∈ DataW.weightsAll P e l
 | x :: l, d, hd, hk => by
  simp only [DataW.weightsAll, List.mem_append]
  rcases List.mem_cons.1 hd with rfl | hd
  exact .inl hk
  exact .inr (zm0 hd hk)
theorem zkx {k : Nat} : ∀ {ts vt : List TypeId} {ds gs : List (DataW H)}, k ∈ DataW.weightsEach P ts ds -> k ∈ DataW.weightsEach P (ts ++ vt) (ds ++ gs)
 | [], _, _, _, h => by simp [DataW.weightsEach] at h
 | _ :: _, _, [], _, h => by simp [DataW.weightsEach] at h
 | t :: ts, vt, d :: ds, gs, h => by
  simp only [DataW.weightsEach, List.cons_append, List.mem_append] at h ⊢
  exact h.imp id zkx
theorem znq : ∀ (n fuel : Nat) (t : TypeId) (cs : List Value) (x : DataW H × List MemPlace) (C : Cx), C.w = w -> (∀ b, ¬ C.M b) -> (∀ b, C.Z b) -> zr1 P n t = true -> DataW.trod enc P w 0 sp true fuel t cs = some x -> (∀ k ∈ DataW.weights P t x.1, k <= reachBytes) ->
  ∃ l, reps C l cs /\ zch P n t l /\ cs.all (·.oneCell') = true
 | 0, _, _, _, _, _, _, _, _, h, _, _ => by simp [zr1] at h
 | n + 1, fuel, t, cs, x, C, hw, hM, hlo, hd, h, hwt => by
  unfold zr1 at hd
  split at hd
  rename_i ht
  simp only [zch, ht]
  obtain ⟨b, rfl, _⟩ := DataW.trod_bool ht h
  exact ⟨[.bool b], by simp only [reps, rep]; exact ⟨_, _, rfl, rfl, rfl⟩, ⟨b, rfl⟩, rfl⟩
  rename_i k ht
  simp only [zch, ht]
  obtain ⟨m, rfl, _, hwf⟩ := DataW.trod_int ht h
  simp only [Lit.wf, Bool.and_eq_true, decide_eq_true_eq] at hwf
  exact ⟨[.int k m], by simp only [reps, rep]; exact ⟨_, _, rfl, ⟨rfl, hwf⟩, rfl⟩, ⟨m, rfl⟩, rfl⟩
  rename_i ht
  simp only [zch, ht]
  obtain ⟨s, rfl, _, hs⟩ := DataW.trod_string ht h
  refine ⟨[.str s.data.toList], ?_, ⟨_, rfl⟩, rfl⟩
  simp only [reps, rep]
  refine ⟨_, _, rfl, ⟨by rw [Array.toArray_toList], ?_⟩, rfl⟩
  have h1 : s.data.toList.length = s.size := by rw [Array.length_toList]; rfl
  have h2 : s.size <= 9223372036854775807 := hs
  rw [h1]; omega
  ·rename_i e ht
   simp only [zch, ht]
   simp only [Bool.and_eq_true, Bool.or_eq_true] at hd
   obtain ⟨⟨hde, hpos⟩, hone⟩ := hd
   have hpos : 0 < P.cellsOf e := lb hpos
   rcases DataW.trod_slice ht h with ⟨rfl, _⟩ | ⟨a, len, cap, els, rest, m, _, rfl, rfl, hb, hl, hc, hlen, hel, _⟩
   refine ⟨[.imm (P.cellsOf e) (([] : List (List D)).map (mkD P e)) 4], ?_, ⟨[], rfl, by simp, fun _ h => by cases h⟩, rfl⟩
   simp only [reps, rep, List.map_nil, List.length_nil]
   exact ⟨_, _, rfl, ⟨none, 0, rfl, by simp, by simp, by simp, by simp, by simp, by simp, by simp, .inl trivial⟩, rfl⟩
   ·have hc : cap <= 9223372036854775807 := hc
    have key : ∀ i, i < len -> ∃ l v, zch P n e l /\ rep (C.at C.Z) (mkD P e l) v /\ v.cells.size = P.cellsOf e /\ v.cells.toList.all (·.oneCell') = true /\ (i = 0 -> a.spot = none) /\ a.block < w.heap.size /\ w.rangeAt a.block (a.off + i * P.cellsOf e) v.cells.toList := by
     intro i hi
     have hi' := hel i hi
     have hsome : els[i]? = some els[i] := List.getElem?_eq_getElem (by omega)
     rw [hsome, Option.bind_eq_some_iff] at hi'
     obtain ⟨cs', hcs, htr⟩ := hi'
     obtain ⟨_, hclen, hcell⟩ := World.cells?_some hcs
     obtain ⟨l, g1, g2, g3⟩ := znq n m e cs' _ (C.at C.Z) (by simpa [Cx.at] using hw) (by simpa [Cx.at] using hM) (by simpa [Cx.at] using hlo) hde htr (fun k hk => hwt k (by
      simp only [DataW.weights, ht, List.mem_cons, List.mem_append]
      exact .inr (.inl (zm0 (List.mem_map_of_mem (List.getElem_mem _)) hk))))
     have h0 := hcell 0 hpos
     have hc0 : cs'[0]? = some cs'[0] := List.getElem?_eq_getElem (by omega)
     rw [hc0] at h0
     have hadd : ∀ j, ((a.add (i * P.cellsOf e)).add j).block = a.block := by intro j; unfold Addr.add; split <;> split <;> rfl
     have hblk : a.block < w.heap.size /\ ((a.add (i * P.cellsOf e)).add 0).spot = none := by
      unfold World.cell? at h0
      rw [hadd] at h0
      split at h0
      rename_i c T fz hh
      have := (Array.getElem?_eq_some_iff.1 hh).1
      split at h0
      cases h0
      rename_i hs; exact ⟨this, by simpa using hs⟩
      cases h0
     have hspot0 : (a.add (i * P.cellsOf e)).spot = none := by simpa [Addr.add] using hblk.2
     have hae : ∀ j, j < P.cellsOf e -> (a.add (i * P.cellsOf e)).add j = ⟨a.block, a.off + i * P.cellsOf e + j, none⟩ := by
      intro j _
      unfold Addr.add at hspot0 ⊢
      split at hspot0
      ·rename_i hz
       simp only [hz, if_true, Nat.add_zero]
       split
       ·rename_i hj; subst hj; cases a; simp_all
       rfl
      rename_i hz
      simp only [hz, if_false]
      split
      rename_i hj; subst hj; rfl
      rfl
     have hrange : w.rangeAt a.block (a.off + i * P.cellsOf e) cs' := by
      intro j v hj
      have hjl := (List.getElem?_eq_some_iff.1 hj).1
      have := hcell j (by omega)
      rw [hae j (by omega), hj] at this
      exact this
     cases hag : aggT P e with
     | true =>
      refine ⟨l, .agg cs'.toArray, g2, ?_, by simp [Value.cells, hclen], by simpa [Value.cells] using g3, ?_, hblk.1, by simpa [Value.cells] using hrange⟩
      simp only [mkD, hag, cond_true, rep]
      exact ⟨cs', rfl, g1⟩
      rintro rfl; simpa [Addr.add] using hspot0
     | false =>
      rw [hag] at hone
      have h1 : P.cellsOf e = 1 := by simpa using hone
      rw [h1] at hclen
      obtain ⟨v, rfl⟩ := List.length_eq_one_iff.1 hclen
      obtain ⟨d, rfl⟩ : ∃ d, l = [d] := List.length_eq_one_iff.1 ((zcl _ _ g1).symm.trans rfl)
      simp only [reps] at g1
      obtain ⟨v', vs', hv, hd, rfl⟩ := g1
      obtain rfl : v = v' := (List.cons.inj hv).1
      have hcv : v.cells = #[v] := by
       simp only [List.all_cons, List.all_nil, Bool.and_true] at g3
       cases v <;> first | rfl | simp [Value.oneCell'] at g3
      refine ⟨[d], v, g2, by simpa [mkD, hag] using hd, by simp [hcv, h1], by simpa [hcv] using g3, ?_, hblk.1, by simpa [hcv] using hrange⟩
      rintro rfl; simpa [Addr.add] using hspot0
    obtain ⟨xs, g1, g2, g3⟩ := zx7 (C := C.at C.Z) (b := a.block) (s := P.cellsOf e) (p := zch P n e) (f := mkD P e) len a.off (fun i hi => by
     obtain ⟨l, v, h1, h2, h3, h4, _, _, h5⟩ := key i hi
     exact ⟨l, v, h1, h2, h3, h4, by subst hw; exact h5⟩)
    refine ⟨[.imm (P.cellsOf e) (xs.map (mkD P e)) 4], ?_, ⟨xs, rfl, ?_, g3⟩, rfl⟩
    case refine_2 =>
     have h9 := hwt ((els.length + rest.length) * P.bytesOf e) (by simp [DataW.weights, ht])
     have h8 : xs.length * P.bytesOf e <= (els.length + rest.length) * P.bytesOf e := Nat.mul_le_mul_right _ (by omega)
     have h7 := reachBytes_lt
     omega
    simp only [reps, rep, List.length_map, g1]
    refine ⟨_, _, rfl, ⟨some a, cap, rfl, hl, by omega, by simp, by simp, by simp, by simp, by simp, ?_⟩, rfl⟩
    rcases Nat.eq_zero_or_pos len with h0 | h0
    left; subst h0; have := List.length_eq_zero_iff.1 g1; simp [this]
    right
    obtain ⟨_, _, _, _, _, _, k1, k2, _⟩ := key 0 h0
    intro Z hZ
    have hZ : C.Z = Z := by simpa [Cx.zone] using hZ
    subst hZ
    exact ⟨a, rfl, k1 rfl, hM _, hlo _, by exact ⟨by rw [hw]; exact k2, fun h => by simp at h⟩, g2⟩
  rename_i fs ht
  simp only [zch, ht]
  obtain ⟨xs, m, _, rfl, hcl, hxl, hf⟩ := DataW.trod_struct ht h
  have key : ∀ (gs : List Field) (k : Nat), (∀ i f, gs[i]? = some f -> fs[k + i]? = some f) -> ∀ off, zkl P (zr1 P n) off gs (P.cellsOf t) = true -> off <= cs.length -> 
    ∃ l, reps C l (cs.drop off) /\ zpf (zch P n) (gs.map (·.type)) l /\ (cs.drop off).all (·.oneCell') = true := by
   intro gs
   induction gs with
   | nil =>
    intro k _ off ho _
    simp only [zkl] at ho
    have ho := nb ho
    have : cs.drop off = [] := by rw [ho, <- hcl]; simp
    rw [this]
    exact ⟨[], by simp only [reps], rfl, rfl⟩
   | cons f gs ih =>
    intro k hk off ho hle
    simp only [zkl, Bool.and_eq_true] at ho
    obtain ⟨⟨h1, h2⟩, h3⟩ := ho
    have h1 := nb h1
    have hfk := hf k f (by simpa using hk 0 f rfl)
    have hkl : k < xs.length := by
     have := hk 0 f rfl
     rw [hxl]
     exact (Array.getElem?_eq_some_iff.1 (by simpa using this)).1
    rw [List.getElem?_eq_getElem hkl, h1] at hfk
    obtain ⟨l1, g1, g2, g3⟩ := znq n m f.type _ _ C hw hM hlo h2 hfk (fun q hq => hwt q (by
     simp only [DataW.weights, ht]
     have h0 := hk 0 f rfl
     exact DataW.weights_mem_each (j := k) (by simp; exact ⟨f, by simpa using h0, rfl⟩) (by rw [List.getElem?_map, List.getElem?_eq_getElem hkl]; rfl) q hq))
    have hl1 : ((cs.drop off).take (P.cellsOf f.type)).length = P.cellsOf f.type := by
     have := zqs _ _ _ h3
     simp
     omega
    obtain ⟨l2, k1, k2, k3⟩ := ih (k + 1) (fun i f' hi => by have := hk (i + 1) f' (by simpa using hi); rwa [show k + (i + 1) = k + 1 + i by omega] at this) (off + P.cellsOf f.type) h3 (by
     simp at hl1; omega)
    have e : cs.drop off = (cs.drop off).take (P.cellsOf f.type) ++ cs.drop (off + P.cellsOf f.type) := by
     rw [<- List.drop_drop, List.take_append_drop]
    refine ⟨l1 ++ l2, by rw [e]; exact zol g1 k1, ⟨l1, l2, rfl, g2, k2⟩, by rw [e, List.all_append, g3, k3]; rfl⟩
  simpa using key fs.toList 0 (fun i f hi => by simpa using hi) 0 hd (Nat.zero_le _)
  cases hd
theorem zyo {r : Reach} {b0 n : Nat} {t : TypeId} {v : Value} {d : DataW H} {ps : List MemPlace} {fr : Nat} (hd : zr1 P n t = true) (hval : Value.okWide P w r b0 t v) (h : DataW.Trod enc P w 0 sp true t v d ps) (hwt : ∀ k ∈ DataW.weights P t d, k <= reachBytes) :
  ∃ l, zch P n t l /\ rep (cx0 w fr) (mkD P t l) v := by
 obtain ⟨fuel, h⟩ := h
 obtain ⟨l, h1, h2, h3⟩ := znq n fuel t _ _ (cx0 w fr) rfl (fun _ h => h) (fun _ => trivial) hd h hwt
 refine ⟨l, h2, ?_⟩
 unfold mkD aggT
 cases n with
 | zero => simp [zr1] at hd
 | succ n =>
  unfold zr1 at hd
  unfold Value.okWide at hval
  split at hd
  case h_5 fs ht =>
   rw [ht] at hval ⊢
   obtain ⟨cs, rfl, _⟩ := hval
   simp only [cond_true, rep]
   exact ⟨cs.toList, by simp, by simpa [Value.cells] using h1⟩
  case h_6 => cases hd
  all_goals
   rename_i ht
   rw [ht] at hval ⊢
   simp only [cond_false]
   have hcv : v.cells = #[v] := by
    cases v with
    | agg cs => simp [Cell.okWide, Cell.ok, ht] at hval
    | _ => rfl
   rw [hcv] at h1
   have hl : ∃ d, l = [d] := List.length_eq_one_iff.1 ((zcl _ _ h1).symm.trans rfl)
   obtain ⟨d, rfl⟩ := hl
   simp only [reps] at h1
   obtain ⟨v', vs', hv, hd', _⟩ := h1
   obtain rfl : v = v' := by simpa using (List.cons.inj hv).1
   exact hd'
def zii (P : Program) (n : Nat) : List TypeId -> List D -> Prop
 | [], l => l = []
 | t :: ts, l => ∃ c r, l = mkD P t c :: r /\ zch P n t c /\ zii P n ts r
theorem zmp {r : Reach} {b0 n fr : Nat} : ∀ {ts : List TypeId} {vs : List Value} {ds : List (DataW H)} {ps : List MemPlace}, ts.all (zr1 P n) = true -> (∀ (j : Nat) t v, ts[j]? = some t -> vs[j]? = some v -> Value.okWide P w r b0 t v) ->
  DataW.TrodAll enc P w 0 sp true ts vs ds ps -> (∀ k ∈ DataW.weightsEach P ts ds, k <= reachBytes) -> ∃ l, zii P n ts l /\ reps (cx0 w fr) l vs
 | [], [], [], _, _, _, _, _ => ⟨[], rfl, by simp only [reps]⟩
 | t :: ts, v :: vs, d :: ds, ps, hd, hval, h, hwt => by
  obtain ⟨p, q, h1, h2, _⟩ := h
  simp only [List.all_cons, Bool.and_eq_true] at hd
  obtain ⟨c, g1, g2⟩ := zyo (fr := fr) hd.1 (hval 0 t v rfl rfl) h1 (fun k hk => hwt k (by simp only [DataW.weightsEach, List.mem_append]; exact .inl hk))
  obtain ⟨l, k1, k2⟩ := zmp hd.2 (fun j t v h h' => hval (j + 1) t v h h') h2 (fun k hk => hwt k (by simp only [DataW.weightsEach, List.mem_append]; exact .inr hk))
  exact ⟨_ :: l, ⟨c, l, rfl, g1, k1⟩, by simp only [reps]; exact ⟨_, _, rfl, g2, k2⟩⟩
 | [], _ :: _, _, _, _, _, h, _ => h.elim
 | [], [], _ :: _, _, _, _, h, _ => h.elim
 | _ :: _, [], _, _, _, _, h, _ => h.elim
 | _ :: _, _ :: _, [], _, _, _, h, _ => h.elim
theorem law_contractS {K : FuncId} {f : Func} {s : ChangeSpec} {apart fresh : Bool} {n : Nat} {tb : TypeId} (hl : laidOutB P = true) (hr : (f.params.toList.all fun t => P.readableRec t && Nat.blt t P.types.size) = true)
  (hd : f.params.toList.all (zr1 P n) = true) (hvars : s.vars = []) (hres : f.resultTypes = #[tb]) (hb : P.underlying tb = some .bool)
  (hfn : ∀ ds : List (DataW H), ds.length = f.params.size -> s.fn H ds = { results := [.lit (.bool true)], args := ds })
  (hK : ∀ l, zii P n f.params.toList l -> zaq P K l (.bool true)) {W : World} (hG : Gw W.heap.size W) {base : Nat} {args : Array Value} {ds gs : List (DataW H)} {before : List MemPlace}
  (hval : ∀ (j : Nat) t v, f.params[j]? = some t -> args[j]? = some v -> Value.okWide P W .any base t v) (hW : DataW.Whole enc P f.params.toList s.vars apart W args.toList ds gs before) {vt : List TypeId} (hsz : (DataW.weightsEach P (f.params.toList ++ vt) (ds ++ gs)).all (· <= reachBytes) = true) :
  Calls P K args W fun e W' => ∃ v, e = .returned v /\ s.post enc P f apart fresh false false W args v W' := by
 have hW' := hW
 obtain ⟨p, q, hA, hV, rfl, hfz, hnd⟩ := hW
 rw [hvars] at hV
 have hlen : ds.length = f.params.size := by
  have : ∀ {ts : List TypeId} {vs : List Value} {ds : List (DataW H)} {ps : List MemPlace}, DataW.TrodAll enc P W 0 (fun _ => true) true ts vs ds ps -> ds.length = ts.length := by
   intro ts
   induction ts with
   | nil => intro vs ds ps h; cases vs <;> cases ds <;> first | rfl | exact h.elim
   | cons t ts ih => intro vs ds ps h; cases vs <;> cases ds <;> first | (obtain ⟨_, _, _, h2, _⟩ := h; simp [ih h2]) | exact h.elim
  simpa using this hA
 have hgs : gs = [] /\ q = [] := by
  cases gs with
  | nil => exact ⟨rfl, hV⟩
  | cons g gs => exact hV.elim
 obtain ⟨rfl, rfl⟩ := hgs
 obtain ⟨l, h1, h2⟩ := zmp (fr := W.heap.size) hd (fun j t v h h' => hval j t v (by simpa using h) (by simpa using h')) hA (fun k hk => by
  have := List.all_eq_true.1 hsz k (zkx hk)
  simpa using this)
 refine ((hK l h1).2 W _ hG h2).mono fun e W' ⟨v, he, hk, _, hv⟩ => ⟨v, he, ?_⟩
 simp only [rep] at hv
 subst hv
 have hB := hk.below
 have hlt := hW'.lt
 have hf := hfn ds hlen
 refine ⟨ds, [], p ++ [], [], p, [], hW', ?_, ?_, ?_, ?_, fun h => by cases h⟩
 rw [List.append_nil, hf, hres]
 exact ⟨[], [], ⟨1, by simp [DataW.trod, Value.cells, hb]⟩, rfl, rfl⟩
 rw [List.append_nil, hf]
 exact zmo hl hB hr hA fun x hx => ⟨hlt x (by simp [hx]), by simpa using hlt x (by simp [hx])⟩
 rw [List.append_nil, hf, hvars]
 rfl
 exact hB.frame _
end
section
variable {P : Program} {n : Nat} {t : TypeId} {l : List D}
theorem zuv (hu : P.underlying t = some .bool) (h : zch P (n + 1) t l) : ∃ b, l = [.bool b] := by
 rw [zch, hu] at h; exact h
theorem zc3 {k : IntKind} (hu : P.underlying t = some (.int k)) (h : zch P (n + 1) t l) : ∃ m, l = [.int k m] := by
 rw [zch, hu] at h; exact h
theorem zlk (hu : P.underlying t = some .string) (h : zch P (n + 1) t l) : ∃ s, l = [.str s] := by
 rw [zch, hu] at h; exact h
theorem zwo {α : Type} {f : α -> D} {S : α -> Prop} {g : List D -> D} : ∀ (xs : List (List D)), (∀ x ∈ xs, ∃ y, g x = f y /\ S y) -> ∃ l : List α, xs.map g = l.map f /\ l.length = xs.length /\ ∀ y ∈ l, S y
 | [], _ => ⟨[], rfl, rfl, fun _ h => by cases h⟩
 | x :: xs, h => by
  obtain ⟨y, hy, hs⟩ := h x (by simp)
  obtain ⟨l, hl, hn, hS⟩ := zwo xs fun x hx => h x (by simp [hx])
  refine ⟨y :: l, by simp only [List.map_cons, hy, hl], by simp [hn], fun z hz => ?_⟩
  rcases List.mem_cons.1 hz with rfl | hz
  exact hs
  exact hS z hz
theorem zh5 {α : Type} (f : α -> D) (S : α -> Prop) {e : TypeId} {s b : Nat} (hu : P.underlying t = some (.slice e)) (ha : aggT P t = false) (hc : P.cellsOf e = s) (hb : P.bytesOf e = b) (hx : ∀ x, zch P n e x -> ∃ y, mkD P e x = f y /\ S y) (h : zch P (n + 1) t l) :
  ∃ m : List α, mkD P t l = .imm s (m.map f) 4 /\ m.length * b <= 140737488355328 /\ ∀ y ∈ m, S y := by
 rw [zch, hu] at h
 obtain ⟨xs, rfl, hle, hxs⟩ := h
 obtain ⟨m, hm, hn, hS⟩ := zwo (f := f) (S := S) (g := mkD P e) xs fun x hx' => hx x (hxs x hx')
 exact ⟨m, by rw [zjn ha, hm, hc], by rw [hn, <- hb]; exact hle, hS⟩
theorem zic {e : TypeId} (hu : P.underlying t = some (.slice e)) (h : zch P (n + 1) t l) : ∃ d, l = [d] := by
 rw [zch, hu] at h
 obtain ⟨xs, rfl, _⟩ := h
 exact ⟨_, rfl⟩
theorem zdt {fs : Array Field} (hu : P.underlying t = some (.struct fs)) (h : zch P (n + 1) t l) : zpf (zch P n) (fs.toList.map (·.type)) l := by
 rw [zch, hu] at h; exact h
theorem zhf {ts : List TypeId} (h : zii P n (t :: ts) l) : ∃ c r, l = mkD P t c :: r /\ zch P n t c /\ zii P n ts r := h
theorem zsj (h : zii P n [] l) : l = [] := h
end
end Go.Tm
end
section
namespace Go.Proofs.YtafdfmkjjhimaaaGreatDoor.groupOnce
open Go.ChangeShapes Go.WideShapes Go.RowKit Go.Tm
set_option maxRecDepth 100000
theorem own : ownKnob Tryz.prog.godebug = none := by kernel_rfl
theorem ya6f : aggT Tryz.prog 32 = true := by kernel_rfl
def sz3 (_ : Int) : Prop := True
theorem ya5p : aggT Tryz.prog 22 = false := by kernel_rfl
theorem ya6d : aggT Tryz.prog 91 = true := by kernel_rfl
theorem ya41 : aggT Tryz.prog 30 = false := by kernel_rfl
theorem agg3 : aggT Tryz.prog 3 = false := by kernel_rfl
theorem ya5h : Tryz.prog.cellsOf 3 = 1 := by kernel_rfl
theorem ya5k : Tryz.prog.bytesOf 3 = 8 := by kernel_rfl
def sz30 (m : List Int) : Prop := m.length * 8 <= 140737488355328 /\ ∀ y ∈ m, sz3 y
theorem tc30 {n : Nat} {l : List D} (h : zch Tryz.prog (n + 2) 30 l) : ∃ m : List Int, l = [.imm 1 (m.map (D.int .i64)) 4] /\ sz30 m := by
 obtain ⟨d, hd⟩ := zic Tryz.underlying30 h
 obtain ⟨m, hm, hs⟩ := zh5 (D.int .i64) sz3 Tryz.underlying30 ya41 ya5h ya5k (fun x hx => by
  obtain ⟨a, ha⟩ := zc3 Tryz.underlying3 hx
  have hsa : sz3 a := trivial
  exact ⟨a, ha ▸ zjn agg3, hsa⟩) h
 rw [hd, zjn ya41] at hm
 exact ⟨m, by rw [hd, hm], hs⟩
def sz9 (_ : List UInt8) : Prop := True
def sz34 (x : TMessage) : Prop := sz3 x.Id /\ sz30 x.Groups /\ sz3 x.Topic /\ sz9 x.Key /\ sz9 x.Body
theorem tc34 {n : Nat} {l : List D} (h : zch Tryz.prog (n + 3) 34 l) : ∃ x : TMessage, l = [.int .i64 x.Id, .imm 1 (x.Groups.map (D.int .i64)) 4, .int .i64 x.Topic, .str x.Key, .str x.Body] /\ sz34 x := by
 replace h := zdt Tryz.underlying34 h
 obtain ⟨l0, r0, e0, h0, h⟩ := zai h
 obtain ⟨l1, r1, e1, h1, h⟩ := zai h
 obtain ⟨l2, r2, e2, h2, h⟩ := zai h
 obtain ⟨l3, r3, e3, h3, h⟩ := zai h
 obtain ⟨l4, r4, e4, h4, h⟩ := zai h
 have ez := zfw h
 obtain ⟨a0, f0⟩ := zc3 Tryz.underlying3 h0
 have s0 : sz3 a0 := trivial
 obtain ⟨a1, f1, s1⟩ := tc30 (n := n + 0) h1
 obtain ⟨a2, f2⟩ := zc3 Tryz.underlying3 h2
 have s2 : sz3 a2 := trivial
 obtain ⟨a3, f3⟩ := zlk Tryz.underlying9 h3
 have s3 : sz9 a3 := trivial
 obtain ⟨a4, f4⟩ := zlk Tryz.underlying9 h4
 have s4 : sz9 a4 := trivial
 refine ⟨⟨a0, a1, a2, a3, a4⟩, ?_, s0, s1, s2, s3, s4⟩
 rw [e0, e1, e2, e3, e4, ez, f0, f1, f2, f3, f4]
 exact rfl
def sz4 (_ : Bool) : Prop := True
def sz91 (x : TWait) : Prop := sz34 x.Message /\ sz3 x.Time /\ sz4 x.Final
theorem tc91 {n : Nat} {l : List D} (h : zch Tryz.prog (n + 4) 91 l) : ∃ x : TWait, l = [.int .i64 x.Message.Id, .imm 1 (x.Message.Groups.map (D.int .i64)) 4, .int .i64 x.Message.Topic, .str x.Message.Key, .str x.Message.Body, .int .i64 x.Time, .bool x.Final] /\ sz91 x := by
 replace h := zdt Tryz.underlying91 h
 obtain ⟨l0, r0, e0, h0, h⟩ := zai h
 obtain ⟨l1, r1, e1, h1, h⟩ := zai h
 obtain ⟨l2, r2, e2, h2, h⟩ := zai h
 have ez := zfw h
 obtain ⟨a0, f0, s0⟩ := tc34 (n := n + 0) h0
 obtain ⟨a1, f1⟩ := zc3 Tryz.underlying3 h1
 have s1 : sz3 a1 := trivial
 obtain ⟨a2, f2⟩ := zuv Tryz.underlying4 h2
 have s2 : sz4 a2 := trivial
 refine ⟨⟨a0, a1, a2⟩, ?_, s0, s1, s2⟩
 rw [e0, e1, e2, ez, f0, f1, f2]
 exact rfl
theorem ya3r : Tryz.prog.cellsOf 91 = 7 := by kernel_rfl
theorem ya3v : Tryz.prog.bytesOf 91 = 88 := by kernel_rfl
def sz22 (m : List TWait) : Prop := m.length * 88 <= 140737488355328 /\ ∀ y ∈ m, sz91 y
theorem tc22 {n : Nat} {l : List D} (h : zch Tryz.prog (n + 5) 22 l) : ∃ m : List TWait, l = [.imm 7 (m.map TWait.d) 4] /\ sz22 m := by
 obtain ⟨d, hd⟩ := zic Tryz.underlying22 h
 obtain ⟨m, hm, hs⟩ := zh5 TWait.d sz91 Tryz.underlying22 ya5p ya3r ya3v (fun x hx => by
  obtain ⟨a, ha, hsa⟩ := tc91 (n := n) hx
  exact ⟨a, (zny ya6d).trans (by rw [ha]; rfl), hsa⟩) h
 rw [hd, zjn ya5p] at hm
 exact ⟨m, by rw [hd, hm], hs⟩
theorem ya5o : aggT Tryz.prog 23 = false := by kernel_rfl
theorem ya5q : aggT Tryz.prog 144 = true := by kernel_rfl
def ya2i (x : TStamp) : Prop := sz3 x.Time /\ sz3 x.Id
theorem ya5v {n : Nat} {l : List D} (h : zch Tryz.prog (n + 2) 144 l) : ∃ x : TStamp, l = [.int .i64 x.Time, .int .i64 x.Id] /\ ya2i x := by
 replace h := zdt Tryz.underlying144 h
 obtain ⟨l0, r0, e0, h0, h⟩ := zai h
 obtain ⟨l1, r1, e1, h1, h⟩ := zai h
 have ez := zfw h
 obtain ⟨a0, f0⟩ := zc3 Tryz.underlying3 h0
 have s0 : sz3 a0 := trivial
 obtain ⟨a1, f1⟩ := zc3 Tryz.underlying3 h1
 have s1 : sz3 a1 := trivial
 refine ⟨⟨a0, a1⟩, ?_, s0, s1⟩
 rw [e0, e1, ez, f0, f1]
 exact rfl
theorem ya1q : Tryz.prog.cellsOf 144 = 2 := by kernel_rfl
theorem ya1s : Tryz.prog.bytesOf 144 = 16 := by kernel_rfl
def sz23 (m : List TStamp) : Prop := m.length * 16 <= 140737488355328 /\ ∀ y ∈ m, ya2i y
theorem tc23 {n : Nat} {l : List D} (h : zch Tryz.prog (n + 3) 23 l) : ∃ m : List TStamp, l = [.imm 2 (m.map TStamp.d) 4] /\ sz23 m := by
 obtain ⟨d, hd⟩ := zic Tryz.underlying23 h
 obtain ⟨m, hm, hs⟩ := zh5 TStamp.d ya2i Tryz.underlying23 ya5o ya1q ya1s (fun x hx => by
  obtain ⟨a, ha, hsa⟩ := ya5v (n := n) hx
  exact ⟨a, (zny ya5q).trans (by rw [ha]; rfl), hsa⟩) h
 rw [hd, zjn ya5o] at hm
 exact ⟨m, by rw [hd, hm], hs⟩
def sz25 (x : TSkeen) : Prop := sz3 x.Clock /\ sz22 x.Waits /\ sz23 x.Done
theorem tc25 {n : Nat} {l : List D} (h : zch Tryz.prog (n + 6) 25 l) : ∃ x : TSkeen, l = [.int .i64 x.Clock, .imm 7 (x.Waits.map TWait.d) 4, .imm 2 (x.Done.map TStamp.d) 4] /\ sz25 x := by
 replace h := zdt Tryz.underlying25 h
 obtain ⟨l0, r0, e0, h0, h⟩ := zai h
 obtain ⟨l1, r1, e1, h1, h⟩ := zai h
 obtain ⟨l2, r2, e2, h2, h⟩ := zai h
 have ez := zfw h
 obtain ⟨a0, f0⟩ := zc3 Tryz.underlying3 h0
 have s0 : sz3 a0 := trivial
 obtain ⟨a1, f1, s1⟩ := tc22 (n := n + 0) h1
 obtain ⟨a2, f2, s2⟩ := tc23 (n := n + 2) h2
 refine ⟨⟨a0, a1, a2⟩, ?_, s0, s1, s2⟩
 rw [e0, e1, e2, ez, f0, f1, f2]
 exact rfl
theorem ya5n : aggT Tryz.prog 26 = false := by kernel_rfl
theorem ya6c : aggT Tryz.prog 94 = true := by kernel_rfl
theorem ya5l : aggT Tryz.prog 92 = false := by kernel_rfl
theorem ya6b : aggT Tryz.prog 96 = true := by kernel_rfl
def sz96 (x : TEntry) : Prop := sz3 x.Offset /\ sz3 x.Id /\ sz9 x.Key /\ sz9 x.Body
theorem tc96 {n : Nat} {l : List D} (h : zch Tryz.prog (n + 2) 96 l) : ∃ x : TEntry, l = [.int .i64 x.Offset, .int .i64 x.Id, .str x.Key, .str x.Body] /\ sz96 x := by
 replace h := zdt Tryz.underlying96 h
 obtain ⟨l0, r0, e0, h0, h⟩ := zai h
 obtain ⟨l1, r1, e1, h1, h⟩ := zai h
 obtain ⟨l2, r2, e2, h2, h⟩ := zai h
 obtain ⟨l3, r3, e3, h3, h⟩ := zai h
 have ez := zfw h
 obtain ⟨a0, f0⟩ := zc3 Tryz.underlying3 h0
 have s0 : sz3 a0 := trivial
 obtain ⟨a1, f1⟩ := zc3 Tryz.underlying3 h1
 have s1 : sz3 a1 := trivial
 obtain ⟨a2, f2⟩ := zlk Tryz.underlying9 h2
 have s2 : sz9 a2 := trivial
 obtain ⟨a3, f3⟩ := zlk Tryz.underlying9 h3
 have s3 : sz9 a3 := trivial
 refine ⟨⟨a0, a1, a2, a3⟩, ?_, s0, s1, s2, s3⟩
 rw [e0, e1, e2, e3, ez, f0, f1, f2, f3]
 exact rfl
theorem ya3p : Tryz.prog.cellsOf 96 = 4 := by kernel_rfl
theorem ya3t : Tryz.prog.bytesOf 96 = 48 := by kernel_rfl
def sz92 (m : List TEntry) : Prop := m.length * 48 <= 140737488355328 /\ ∀ y ∈ m, sz96 y
theorem tc92 {n : Nat} {l : List D} (h : zch Tryz.prog (n + 3) 92 l) : ∃ m : List TEntry, l = [.imm 4 (m.map TEntry.d) 4] /\ sz92 m := by
 obtain ⟨d, hd⟩ := zic Tryz.underlying92 h
 obtain ⟨m, hm, hs⟩ := zh5 TEntry.d sz96 Tryz.underlying92 ya5l ya3p ya3t (fun x hx => by
  obtain ⟨a, ha, hsa⟩ := tc96 (n := n) hx
  exact ⟨a, (zny ya6b).trans (by rw [ha]; rfl), hsa⟩) h
 rw [hd, zjn ya5l] at hm
 exact ⟨m, by rw [hd, hm], hs⟩
def sz94 (x : TTopic) : Prop := sz3 x.Base /\ sz3 x.Next /\ sz3 x.Mark /\ sz92 x.Entries
theorem tc94 {n : Nat} {l : List D} (h : zch Tryz.prog (n + 4) 94 l) : ∃ x : TTopic, l = [.int .i64 x.Base, .int .i64 x.Next, .int .i64 x.Mark, .imm 4 (x.Entries.map TEntry.d) 4] /\ sz94 x := by
 replace h := zdt Tryz.underlying94 h
 obtain ⟨l0, r0, e0, h0, h⟩ := zai h
 obtain ⟨l1, r1, e1, h1, h⟩ := zai h
 obtain ⟨l2, r2, e2, h2, h⟩ := zai h
 obtain ⟨l3, r3, e3, h3, h⟩ := zai h
 have ez := zfw h
 obtain ⟨a0, f0⟩ := zc3 Tryz.underlying3 h0
 have s0 : sz3 a0 := trivial
 obtain ⟨a1, f1⟩ := zc3 Tryz.underlying3 h1
 have s1 : sz3 a1 := trivial
 obtain ⟨a2, f2⟩ := zc3 Tryz.underlying3 h2
 have s2 : sz3 a2 := trivial
 obtain ⟨a3, f3, s3⟩ := tc92 (n := n + 0) h3
 refine ⟨⟨a0, a1, a2, a3⟩, ?_, s0, s1, s2, s3⟩
 rw [e0, e1, e2, e3, ez, f0, f1, f2, f3]
 exact rfl
theorem ya3q : Tryz.prog.cellsOf 94 = 4 := by kernel_rfl
theorem ya3u : Tryz.prog.bytesOf 94 = 48 := by kernel_rfl
def sz26 (m : List TTopic) : Prop := m.length * 48 <= 140737488355328 /\ ∀ y ∈ m, sz94 y
theorem tc26 {n : Nat} {l : List D} (h : zch Tryz.prog (n + 5) 26 l) : ∃ m : List TTopic, l = [.imm 4 (m.map TTopic.d) 4] /\ sz26 m := by
 obtain ⟨d, hd⟩ := zic Tryz.underlying26 h
 obtain ⟨m, hm, hs⟩ := zh5 TTopic.d sz94 Tryz.underlying26 ya5n ya3q ya3u (fun x hx => by
  obtain ⟨a, ha, hsa⟩ := tc94 (n := n) hx
  exact ⟨a, (zny ya6c).trans (by rw [ha]; rfl), hsa⟩) h
 rw [hd, zjn ya5n] at hm
 exact ⟨m, by rw [hd, hm], hs⟩
theorem ya5m : aggT Tryz.prog 27 = false := by kernel_rfl
theorem ya3s : Tryz.prog.cellsOf 30 = 1 := by kernel_rfl
theorem ya3w : Tryz.prog.bytesOf 30 = 24 := by kernel_rfl
def sz27 (m : List (List Int)) : Prop := m.length * 24 <= 140737488355328 /\ ∀ y ∈ m, sz30 y
theorem tc27 {n : Nat} {l : List D} (h : zch Tryz.prog (n + 3) 27 l) : ∃ m : List (List Int), l = [.imm 1 (m.map dL_inti64) 4] /\ sz27 m := by
 obtain ⟨d, hd⟩ := zic Tryz.underlying27 h
 obtain ⟨m, hm, hs⟩ := zh5 dL_inti64 sz30 Tryz.underlying27 ya5m ya3s ya3w (fun x hx => by
  obtain ⟨a, ha, hsa⟩ := tc30 (n := n) hx
  exact ⟨a, ha ▸ zjn ya41, hsa⟩) h
 rw [hd, zjn ya5m] at hm
 exact ⟨m, by rw [hd, hm], hs⟩
def sz29 (x : TStream) : Prop := sz26 x.Topics /\ sz27 x.Commits
theorem tc29 {n : Nat} {l : List D} (h : zch Tryz.prog (n + 6) 29 l) : ∃ x : TStream, l = [.imm 4 (x.Topics.map TTopic.d) 4, .imm 1 (x.Commits.map dL_inti64) 4] /\ sz29 x := by
 replace h := zdt Tryz.underlying29 h
 obtain ⟨l0, r0, e0, h0, h⟩ := zai h
 obtain ⟨l1, r1, e1, h1, h⟩ := zai h
 have ez := zfw h
 obtain ⟨a0, f0, s0⟩ := tc26 (n := n + 0) h0
 obtain ⟨a1, f1, s1⟩ := tc27 (n := n + 2) h1
 refine ⟨⟨a0, a1⟩, ?_, s0, s1⟩
 rw [e0, e1, ez, f0, f1]
 exact rfl
def sz32 (x : THome) : Prop := sz25 x.Skeen /\ sz29 x.Stream /\ sz30 x.Last
theorem tc32 {n : Nat} {l : List D} (h : zch Tryz.prog (n + 7) 32 l) : ∃ x : THome, l = [.int .i64 x.Skeen.Clock, .imm 7 (x.Skeen.Waits.map TWait.d) 4, .imm 2 (x.Skeen.Done.map TStamp.d) 4, .imm 4 (x.Stream.Topics.map TTopic.d) 4, .imm 1 (x.Stream.Commits.map dL_inti64) 4, .imm 1 (x.Last.map (D.int .i64)) 4] /\ sz32 x := by
 replace h := zdt Tryz.underlying32 h
 obtain ⟨l0, r0, e0, h0, h⟩ := zai h
 obtain ⟨l1, r1, e1, h1, h⟩ := zai h
 obtain ⟨l2, r2, e2, h2, h⟩ := zai h
 have ez := zfw h
 obtain ⟨a0, f0, s0⟩ := tc25 (n := n + 0) h0
 obtain ⟨a1, f1, s1⟩ := tc29 (n := n + 0) h1
 obtain ⟨a2, f2, s2⟩ := tc30 (n := n + 4) h2
 refine ⟨⟨a0, a1, a2⟩, ?_, s0, s1, s2⟩
 rw [e0, e1, e2, ez, f0, f1, f2]
 exact rfl
theorem ya6e : aggT Tryz.prog 36 = true := by kernel_rfl
def sz5 (_ : Int) : Prop := True
def sz36 (x : TCommand) : Prop := sz5 x.Kind /\ sz34 x.Message /\ sz3 x.Id /\ sz3 x.Time /\ sz30 x.Members /\ sz3 x.Topic /\ sz3 x.Who /\ sz3 x.N
theorem tc36 {n : Nat} {l : List D} (h : zch Tryz.prog (n + 4) 36 l) : ∃ x : TCommand, l = [.int .u8 x.Kind, .int .i64 x.Message.Id, .imm 1 (x.Message.Groups.map (D.int .i64)) 4, .int .i64 x.Message.Topic, .str x.Message.Key, .str x.Message.Body, .int .i64 x.Id, .int .i64 x.Time, .imm 1 (x.Members.map (D.int .i64)) 4, .int .i64 x.Topic, .int .i64 x.Who, .int .i64 x.N] /\ sz36 x := by
 replace h := zdt Tryz.underlying36 h
 obtain ⟨l0, r0, e0, h0, h⟩ := zai h
 obtain ⟨l1, r1, e1, h1, h⟩ := zai h
 obtain ⟨l2, r2, e2, h2, h⟩ := zai h
 obtain ⟨l3, r3, e3, h3, h⟩ := zai h
 obtain ⟨l4, r4, e4, h4, h⟩ := zai h
 obtain ⟨l5, r5, e5, h5, h⟩ := zai h
 obtain ⟨l6, r6, e6, h6, h⟩ := zai h
 obtain ⟨l7, r7, e7, h7, h⟩ := zai h
 have ez := zfw h
 obtain ⟨a0, f0⟩ := zc3 Tryz.underlying5 h0
 have s0 : sz5 a0 := trivial
 obtain ⟨a1, f1, s1⟩ := tc34 (n := n + 0) h1
 obtain ⟨a2, f2⟩ := zc3 Tryz.underlying3 h2
 have s2 : sz3 a2 := trivial
 obtain ⟨a3, f3⟩ := zc3 Tryz.underlying3 h3
 have s3 : sz3 a3 := trivial
 obtain ⟨a4, f4, s4⟩ := tc30 (n := n + 1) h4
 obtain ⟨a5, f5⟩ := zc3 Tryz.underlying3 h5
 have s5 : sz3 a5 := trivial
 obtain ⟨a6, f6⟩ := zc3 Tryz.underlying3 h6
 have s6 : sz3 a6 := trivial
 obtain ⟨a7, f7⟩ := zc3 Tryz.underlying3 h7
 have s7 : sz3 a7 := trivial
 refine ⟨⟨a0, a1, a2, a3, a4, a5, a6, a7⟩, ?_, s0, s1, s2, s3, s4, s5, s6, s7⟩
 rw [e0, e1, e2, e3, e4, e5, e6, e7, ez, f0, f1, f2, f3, f4, f5, f6, f7]
 exact rfl
theorem ya2w : Tryz.f4.params.toList = [32, 3, 36, 36] := by kernel_rfl
theorem hK (l : List D) (h : zii Tryz.prog 8 Tryz.f4.params.toList l) : zaq Tryz.prog 4 l (.bool true) := by
 rw [ya2w] at h
 obtain ⟨c0, r0, e0, h0, h⟩ := zhf h
 obtain ⟨c1, r1, e1, h1, h⟩ := zhf h
 obtain ⟨c2, r2, e2, h2, h⟩ := zhf h
 obtain ⟨c3, r3, e3, h3, h⟩ := zhf h
 have ez := zsj h
 obtain ⟨a0, f0, s0⟩ := tc32 (n := 1) h0
 obtain ⟨a1, f1⟩ := zc3 Tryz.underlying3 h1
 have s1 : sz3 a1 := trivial
 obtain ⟨a2, f2, s2⟩ := tc36 (n := 4) h2
 obtain ⟨a3, f3, s3⟩ := tc36 (n := 4) h3
 rw [e0, e1, e2, e3, ez, f0, f1, f2, f3, zny ya6f, zjn agg3, zny ya6e]
 exact zhr a0 a1 a2 a3 _ (ya4u a0 a1 a2 a3 (fun t ht => by have := (s0.2.1.1.2 t ht).2.2.2.1; omega))
end Go.Proofs.YtafdfmkjjhimaaaGreatDoor.groupOnce
end
