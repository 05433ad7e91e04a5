/- Texts of the proof. -/
import Derived.WideKeyArgs
import Derived.ChangeSame
import Derived.ChangeArms
import Derived.OpenShut
import Derived.Carry
import Derived.Test.YtkananhhhkkpkaaGreatRows
import Derived.WalkKit
import Derived.ProofKit
import Derived.Test.YtkananhhhkkpkaaGreatOrderAsksPm
import Derived.Test.YtkananhhhkkpkaaGreatOrderAsksPk
import Derived.Test.YtkananhhhkkpkaaGreatOrderAsksPe
import Derived.Test.YtkananhhhkkpkaaGreatOrderAsksPl
section
namespace Go.Proofs
open Go.Tm
set_option linter.unusedSimpArgs false
set_option linter.unusedVariables false
theorem ya0n {s : List UInt8} {c : TCommand} (h : zcu s = some (c, 0)) : zc3 c = some 0 := by
 by_cases hs : (s.length : Int) > 1024
 rw [zcu, if_pos hs] at h; cases h
 obtain ⟨c1, r, c', rest, b, h1, h2, h3⟩ := zwq (zh1 s) (zuk s) (by rw [zz7]; omega)
 rw [ya6z hs h1] at h
 unfold finR at h
 split at h
 rename_i hc
 have := sj h
 have : c1 = c := congrArg Prod.fst this
 rw [<- this]; exact hc.2.2
 have := congrArg Prod.snd (sj h)
 simp at this
theorem ya1m : ∀ (l : List (List UInt8)) (cs : List TCommand), zi2 l = some cs -> ∀ c ∈ cs, zc3 c = some 0 := by
 intro l
 induction l with
 | nil => intro cs h; simp [zi2] at h; subst h; simp
 | cons s l ih =>
  intro cs h
  obtain ⟨⟨c, e⟩, hr⟩ := zo7 s
  simp only [zi2, hr] at h
  split at h
  rename_i he
  obtain ⟨ds, hd, rfl⟩ := Option.map_eq_some_iff.1 h
  subst he
  intro x hx
  rcases List.mem_cons.1 hx with rfl | hx
  exact ya0n hr
  exact ih ds hd x hx
  cases h
theorem ya7z : ∀ (l : List (List UInt8)) (cs acc : List TCommand), zi2 l = some cs -> acc.length + l.length < 1000000 -> zbd l acc = some (acc ++ cs) := by
 intro l
 induction l with
 | nil => intro cs acc h _; simp [zi2] at h; subst h; simp [zbd]
 | cons s l ih =>
  intro cs acc h hl
  simp only [List.length_cons] at hl
  obtain ⟨⟨c, e⟩, hr⟩ := zo7 s
  simp only [zi2, hr] at h
  split at h
  obtain ⟨ds, hd, rfl⟩ := Option.map_eq_some_iff.1 h
  rw [zbd, ya70, hr]
  simp only [Option.bind_some]
  rw [if_pos (by simp; omega), ih ds _ hd (by simp; omega)]
  simp
  cases h
theorem zyc : ∀ (l : List (List UInt8)), zbk l = some (if zi2 l = none then .inl 8 else .inr ()) := by
 intro l
 induction l with
 | nil => simp [zbk, zi2]
 | cons s l ih =>
  obtain ⟨⟨c, e⟩, hr⟩ := zo7 s
  have hcs : zi2 (s :: l) = if e = 0 then (zi2 l).map (c :: ·) else none := by simp [zi2, hr]
  rw [zbk, ya70, hr]
  simp only [Option.bind_some]
  by_cases he : e = 0
  rw [if_neg (by simpa using he), ih]
  rw [if_pos he] at hcs
  simp [hcs]
  rw [if_pos he]
  rw [if_neg he] at hcs
  simp [hcs]
theorem ya1q (g : Int) (l : List (List UInt8)) : zh2 g l = some (askS g l) := by
 rw [zh2, zdc, zyc]
 unfold askS
 by_cases hg : g < 0 \/ g >= 4
 rw [if_pos hg, if_pos hg]
 rw [if_neg hg, if_neg hg]
 by_cases hl : (l.length : Int) > 200
 rw [if_pos hl, if_pos hl]; rfl
 rw [if_neg hl, if_neg hl]
 by_cases hc : zi2 l = none
 rw [if_pos hc, if_pos hc]; rfl
 rw [if_neg hc, if_neg hc]; rfl
theorem zvb : ∀ (l acc : List TWait), acc.length + l.length < 1000000 -> (∀ w ∈ l, w.Message.Groups.length * 8 <= 140737488355328) -> zcc l acc = some (acc ++ l) := by
 intro l
 induction l with
 | nil => intro acc _ _; simp [zgt]
 | cons y l ih =>
  intro acc h hg
  simp only [List.length_cons] at h
  rw [zgu, zbj, if_pos (hg y (List.mem_cons_self ..))]
  simp only [Option.bind_some]
  rw [if_pos (by simp; omega), ih _ (by simp; omega) (fun w hw => hg w (List.mem_cons_of_mem _ hw))]
  simp
theorem ya41 {s : TSkeen} (h : V s) : zdi s = some s := by
 have h1 := h.lw
 have h2 := h.ld
 rw [zdi, if_pos (by omega), zvb s.Waits [] (by simp; omega) (fun w hw => by have := (h.w.1 w hw).1.groups; omega)]
 rfl
def zl5 (g : Int) : TSkeen -> List TCommand -> List Ttowncrierref16_Step
 | _, [] => []
 | s, c :: l => ⟨c, s, (stp g s c).1, (stp g s c).2⟩ :: zl5 g (stp g s c).1 l
theorem zxn (g : Int) (hg : 0 <= g /\ g < 4) : ∀ (cs : List TCommand) (s : TSkeen) (acc : List Ttowncrierref16_Step), V s -> (∀ c ∈ cs, zc3 c = some 0) -> acc.length + cs.length < 1000000 ->
  zbe g cs acc s.Clock s.Waits s.Done = some (acc ++ zl5 g s cs) := by
 intro cs
 induction cs with
 | nil => intro s acc _ _ _; simp [zgj, zl5]
 | cons c cs ih =>
  intro s acc hV hc hl
  simp only [List.length_cons] at hl
  obtain ⟨x, m, ok, hp, hs⟩ := ya75 s g c hV hg (hc c (List.mem_cons_self ..))
  obtain ⟨r, _, hV', _⟩ := zqi (g := g) (c := c) hV
  have ht : zdi (⟨s.Clock, s.Waits, s.Done⟩ : TSkeen) = some s := ya41 hV
  rw [zgk, ht]
  simp only [Option.bind_some]
  rw [hp]
  simp only [Option.bind_some]
  have hst : (if ¬ (ok = true) then some (s.Clock, s.Waits, s.Done, []) else some (x.Clock, x.Waits, x.Done, m)) = some ((stp g s c).1.Clock, (stp g s c).1.Waits, (stp g s c).1.Done, (stp g s c).2) := by
   rw [<- hs]
   cases ok <;> rfl
  rw [hst]
  simp only [Option.bind_some]
  rw [if_pos (by simp; omega), ih (stp g s c).1 _ hV' (fun d hd => hc d (List.mem_cons_of_mem _ hd)) (by simp; omega), zl5]
  simp
theorem zwj (g : Int) (hg : 0 <= g /\ g < 4) (l : List (List UInt8)) (cs : List TCommand) (hc : zi2 l = some cs) (hl : l.length <= 200) : zdb g l = some (zl5 g zSk cs) := by
 have hn := zom l cs hc
 rw [zdb, zf9, ya7z l cs [] hc (by simp; omega)]
 have h1 := zxn g hg cs zSk [] zs9 (ya1m l cs hc) (by simp; omega)
 have h1 : zbe g cs [] 0 [] [] = _ := h1
 simp only [Option.bind_some, List.nil_append, h1]
def gvn (x : Torder_given) : Ttowncrierref16_Given := ⟨x.fTime, x.fM⟩
theorem zxm (g : Int) : ∀ (cs : List TCommand) (s : TSkeen) (acc : List Ttowncrierref16_Given), acc.length + cs.length < 1000000 ->
  zc4 (zl5 g s cs) acc = some (acc ++ (tms g s cs).map gvn) := by
 intro cs
 induction cs with
 | nil => intro s acc _; simp [zl5, zgh, tms]
 | cons c cs ih =>
  intro s acc h
  simp only [List.length_cons] at h
  rw [zl5, zgi, tms]
  by_cases hc : ((stp g s c).1.Waits.length : Int) > (s.Waits.length : Int)
  rw [if_pos hc, if_pos (by simp; omega), if_pos hc]
  simp only [Option.bind_some]
  rw [ih _ _ (by simp; omega)]
  simp [gvn]
  rw [if_neg hc, if_neg hc]
  simp only [Option.bind_some]
  rw [ih _ _ (by omega)]
  simp
end Go.Proofs
end
section
namespace Go.Proofs
open Go.Tm
set_option linter.unusedSimpArgs false
set_option linter.unusedVariables false
theorem ya1j (b : List TStamp) : ∀ (l : List TStamp) (n : Nat), n + l.length = b.length -> zav b l n = some (if l = b.drop n then .inr () else .inl false) := by
 intro l
 induction l with
 | nil => intro n h; simp [zav]; simp at h; omega
 | cons y l ih =>
  intro n h
  simp only [List.length_cons] at h
  have hn : n < b.length := by omega
  have hg : b.getD n default = b[n] := by simp [List.getD, List.getElem?_eq_getElem hn]
  have hd := List.drop_eq_getElem_cons hn
  rw [zav, if_pos hn, hg]
  generalize b[n] = z at hd
  rw [hd]
  have hz : (y.Time = z.Time /\ y.Id = z.Id) ↔ y = z := by
   obtain ⟨y1, y2⟩ := y
   obtain ⟨z1, z2⟩ := z
   simp
  by_cases hy : y = z
  rw [if_neg (by simpa using hz.2 hy), ih (n + 1) (by omega)]
  simp only [hy, List.cons.injEq, true_and]
  rw [if_pos (fun h => hy (hz.1 h))]
  simp only [hy, List.cons.injEq, false_and, if_false]
theorem ya2d (a b : List TStamp) : zd0 a b = some (decide (a = b)) := by
 rw [zd0]
 by_cases h : (a.length : Int) = (b.length : Int)
 rw [if_neg (by simpa using h), ya1j b a 0 (by omega), List.drop_zero]
 by_cases hab : a = b <;> simp [hab]
 rw [if_pos h]
 have : a ≠ b := fun hh => h (by rw [hh])
 simp [this]
theorem ya0k (a b : TWait) : zfg a b = some (decide (a = b)) := by
 rw [zfg, zyo]
 obtain ⟨a1, a2, a3⟩ := a
 obtain ⟨b1, b2, b3⟩ := b
 by_cases h : a1 = b1 <;> by_cases h2 : a2 = b2 <;> by_cases h3 : a3 = b3 <;> simp [h, h2, h3]
theorem ya1i (b : List TWait) : ∀ (l : List TWait) (n : Nat), n + l.length = b.length -> zaa b zfg l n = some (if l = b.drop n then .inr () else .inl false) := by
 intro l
 induction l with
 | nil => intro n h; simp [zaa]; simp at h; omega
 | cons y l ih =>
  intro n h
  simp only [List.length_cons] at h
  have hn : n < b.length := by omega
  have hg : b.getD n default = b[n] := by simp [List.getD, List.getElem?_eq_getElem hn]
  have hd := List.drop_eq_getElem_cons hn
  rw [zaa, if_pos hn, hg, ya0k]
  generalize b[n] = z at hd
  rw [hd]
  simp only [Option.bind_some]
  by_cases hy : y = z
  rw [if_neg (by simpa using hy), ih (n + 1) (by omega)]
  simp only [hy, List.cons.injEq, true_and]
  rw [if_pos (by simpa using hy)]
  simp only [hy, List.cons.injEq, false_and, if_false]
theorem ya7r (a b : List TWait) : zbu a b zfg = some (decide (a = b)) := by
 rw [zbu]
 by_cases h : (a.length : Int) = (b.length : Int)
 rw [if_neg (by simpa using h), ya1i b a 0 (by omega), List.drop_zero]
 by_cases hab : a = b <;> simp [hab]
 rw [if_pos h]
 have : a ≠ b := fun hh => h (by rw [hh])
 simp [this]
theorem ya6w (a b : TSkeen) : ziz a b = some (decide (a = b)) := by
 rw [ziz, ya2d, ya7r]
 obtain ⟨a1, a2, a3⟩ := a
 obtain ⟨b1, b2, b3⟩ := b
 by_cases h : a1 = b1 <;> by_cases h2 : a2 = b2 <;> by_cases h3 : a3 = b3 <;> simp [h, h2, h3]
theorem zwf (g : Int) (l : List (List UInt8)) : (∃ e, e ≠ 0 /\ askS g l = e /\ zfy g l = some ([], e)) \/
  ∃ cs, askS g l = 0 /\ zi2 l = some cs /\ l.length <= 200 /\ zfy g l = some (tms g zSk cs, 0) := by
 rw [zfy, zh8]
 unfold askS
 by_cases hg : g < 0 \/ g >= 4
 rw [if_pos hg, if_pos hg]; exact .inl ⟨2, by omega, rfl, rfl⟩
 rw [if_neg hg, if_neg hg, ya06]
 by_cases hl : (l.length : Int) > 200
 rw [if_pos hl, if_pos hl]; exact .inl ⟨4, by omega, rfl, rfl⟩
 rw [if_neg hl, if_neg hl]
 cases hc : zi2 l with
 | none => exact .inl ⟨8, by omega, rfl, rfl⟩
 | some cs =>
  right
  have hcl := zom l cs hc
  refine ⟨cs, by simp, rfl, by omega, ?_⟩
  simp only [Option.bind_some, not_true_eq_false, if_false]
  have h1 := zxw g cs zSk [] zs9 (by simp; omega)
  have h1 : zbv g cs [] 0 [] [] = _ := h1
  have h2 := ya1u (ya7o g cs zSk zs9).1
  rw [zi1]
  simp only [Option.bind_some, h1]
  have h2 : ze8 ⟨(fin g zSk cs).Clock, (fin g zSk cs).Waits, (fin g zSk cs).Done⟩ = _ := h2
  rw [h2]
  simp
def cssS : List (List (List UInt8)) -> Option (List (List TCommand))
 | [] => some []
 | l :: r => if l.length <= 200 then match zi2 l with
   | some cs => (cssS r).map (cs :: ·)
   | none => none
  else none
def tabS : Nat -> List (List TCommand) -> List (List Torder_given)
 | _, [] => []
 | n, cs :: r => tms (n : Int) zSk cs :: tabS (n + 1) r
theorem znw : ∀ (r : List (List TCommand)) (n : Nat), (tabS n r).length = r.length
 | [], _ => rfl
 | _ :: r, n => by simp [tabS, znw r]
theorem zt8 : ∀ (r : List (List TCommand)) (n i : Nat) (h : i < r.length), (tabS n r).getD i default = tms ((n + i : Nat) : Int) zSk r[i]
 | cs :: r, n, 0, _ => by simp [tabS]
 | cs :: r, n, i + 1, h => by
  have h' : i < r.length := by simpa using h
  have := zt8 r (n + 1) i h'
  simp only [tabS, List.getD_cons_succ, List.getElem_cons_succ, this]
  congr 2
  omega
theorem zol : ∀ (r : List (List (List UInt8))) (css : List (List TCommand)), cssS r = some css -> css.length = r.length
 | [], css, h => by simp [cssS] at h; simp [<- h]
 | l :: r, css, h => by
  simp only [cssS] at h
  split at h
  split at h
  obtain ⟨d, hd, rfl⟩ := Option.map_eq_some_iff.1 h
  simp [zol r d hd]
  cases h
  cases h
theorem ztz : ∀ (r : List (List (List UInt8))) (css : List (List TCommand)), cssS r = some css -> ∀ (i : Nat) (h : i < r.length) (h' : i < css.length), r[i].length <= 200 /\ zi2 r[i] = some css[i]
 | [], css, h, i, hi, _ => by simp at hi
 | l :: r, css, h, i, hi, hi' => by
  simp only [cssS] at h
  split at h
  rename_i hl
  split at h
  rename_i cs hc
  obtain ⟨d, hd, rfl⟩ := Option.map_eq_some_iff.1 h
  cases i with
  | zero => exact ⟨hl, hc⟩
  | succ i => exact ztz r d hd i (by simpa using hi) (by simpa using hi')
  cases h
  cases h
theorem zz6 : ∀ (r : List (List (List UInt8))) (n : Nat) (acc : List (List Torder_given)), n + r.length <= 4 -> acc.length <= n ->
  (∃ e, e ≠ 0 /\ cssS r = none /\ ze2 r n acc = some (.inl ([], e))) \/ ∃ css, cssS r = some css /\ ze2 r n acc = some (.inr (acc ++ tabS n css))
 | [], n, acc, _, _ => .inr ⟨[], rfl, by simp [zko, tabS]⟩
 | l :: r, n, acc, hn, ha => by
  simp only [List.length_cons] at hn
  rw [zic]
  rcases zwf (n : Int) l with ⟨e, he, hk, ht⟩ | ⟨cs, _, hc, hl, ht⟩
  rw [ht]
  refine .inl ⟨e, he, ?_, by simp [he]⟩
  unfold askS at hk
  rw [if_neg (by omega)] at hk
  by_cases h2 : l.length <= 200
  rw [if_neg (by omega)] at hk
  by_cases h3 : zi2 l = none
  simp [cssS, h2, h3]
  rw [if_neg h3] at hk; omega
  simp [cssS, h2]
  rw [ht]
  simp only [Option.bind_some, not_true_eq_false, if_false]
  rw [if_pos (by simp; omega)]
  rcases zz6 r (n + 1) (acc ++ [tms (n : Int) zSk cs]) (by omega) (by simp; omega) with h | ⟨css, h1, h2⟩
  obtain ⟨e, h1, h2, h3⟩ := h
  exact .inl ⟨e, h1, by simp [cssS, hl, hc, h2], h3⟩
  refine .inr ⟨cs :: css, by simp [cssS, hl, hc, h1], ?_⟩
  rw [h2, tabS]; simp
theorem of_eq (r : List (List (List UInt8))) : (∃ e, e ≠ 0 /\ (r.length <= 4 -> cssS r = none) /\ zf3 r = some ([], e)) \/ ∃ css, r.length <= 4 /\ cssS r = some css /\ zf3 r = some (tabS 0 css, 0) := by
 rw [zf3]
 by_cases h : (r.length : Int) > 4
 rw [if_pos h]; exact .inl ⟨4, by omega, by omega, rfl⟩
 rw [if_neg h]
 rcases zz6 r 0 [] (by omega) (by simp) with ⟨e, he, hn, h1⟩ | ⟨css, h1, h2⟩
 rw [h1]; exact .inl ⟨e, he, fun _ => hn, rfl⟩
 rw [h2]; exact .inr ⟨css, by omega, h1, rfl⟩
theorem zwy (m : TMessage) : ∀ (l : List Torder_given) (n : Nat), (∃ (k : Nat) (h : k < l.length), l[k].fM = m /\ za6 (fun x0 => zcw x0 m) l n = some (.inl ((n + k : Nat) : Int))) \/ ((∀ e ∈ l, e.fM ≠ m) /\ za6 (fun x0 => zcw x0 m) l n = some (.inr ())) := by
 intro l
 induction l with
 | nil => intro n; exact .inr ⟨by simp, rfl⟩
 | cons y l ih =>
  intro n
  rw [za6]
  simp only [zcw, zyo, Option.bind_some]
  by_cases h : y.fM = m
  rw [if_pos (by simpa using h)]; exact .inl ⟨0, by simp, h, rfl⟩
  rw [if_neg (by simpa using h)]
  have ih := ih (n + 1)
  simp only [zcw, zyo, Option.bind_some] at ih
  rcases ih with ⟨k, hk, h1, h2⟩ | ⟨h1, h2⟩
  exact .inl ⟨k + 1, by simp; omega, by simpa using h1, by rw [h2]; congr 3; omega⟩
  refine .inr ⟨fun w hw => ?_, h2⟩
  rcases List.mem_cons.1 hw with rfl | hw
  exact h
  exact h1 w hw
theorem zy7 (T : List (List Torder_given)) (m : TMessage) : ∀ (gs : List Int) (n : Int), (∀ g ∈ gs, 0 <= g) ->
  zb6 T m gs n = some (.inl (0, false)) \/ ∃ n', zb6 T m gs n = some (.inr n') /\ n <= n' /\
   (∀ g ∈ gs, g < (T.length : Int) /\ ∃ e ∈ T.getD g.toNat default, e.fM = m /\ e.fTime <= n') /\ (n' = n \/ ∃ g ∈ gs, ∃ e ∈ T.getD g.toNat default, e.fM = m /\ e.fTime = n') := by
 intro gs
 induction gs with
 | nil => intro n _; exact .inr ⟨n, rfl, Int.le_refl _, by simp, .inl rfl⟩
 | cons g gs ih =>
  intro n h0
  have hg := h0 g (List.mem_cons_self ..)
  rw [zb6]
  by_cases h1 : g >= (T.length : Int)
  rw [if_pos h1]; exact .inl rfl
  rw [if_neg h1, if_pos ⟨hg, by omega⟩, zba]
  rcases zwy m (T.getD g.toNat default) 0 with ⟨k, hk, e1, e2⟩ | ⟨e1, e2⟩
  rw [e2]
  simp only [Option.bind_some, Nat.zero_add]
  rw [if_neg (by omega), if_pos ⟨hg, by omega⟩, if_pos ⟨by omega, by omega⟩, Int.toNat_natCast]
  have hge : (T.getD g.toNat default).getD k default = (T.getD g.toNat default)[k] := by rw [List.getD_eq_getElem?_getD (l := T.getD g.toNat default), List.getElem?_eq_getElem hk]; rfl
  rw [hge]
  rcases ih (max n (T.getD g.toNat default)[k].fTime) (fun x hx => h0 x (List.mem_cons_of_mem _ hx)) with h | ⟨n', h2, h3, h4, h5⟩
  exact .inl h
  refine .inr ⟨n', h2, by omega, fun x hx => ?_, ?_⟩
  rcases List.mem_cons.1 hx with rfl | hx
  exact ⟨by omega, _, List.getElem_mem hk, e1, by omega⟩
  exact h4 x hx
  rcases h5 with h5 | ⟨x, hx, h5⟩
  by_cases hmx : n <= (T.getD g.toNat default)[k].fTime
  exact .inr ⟨g, List.mem_cons_self .., _, List.getElem_mem hk, e1, by omega⟩
  exact .inl (by omega)
  exact .inr ⟨x, List.mem_cons_of_mem _ hx, h5⟩
  rw [e2]
  simp only [Option.bind_some]
  rw [if_pos (by omega)]; exact .inl rfl
def fT (T : List (List Torder_given)) (m : TMessage) : Int × Bool := (zdj T m).getD (0, false)
theorem ya3n (T : List (List Torder_given)) (m : TMessage) (h : ∀ g ∈ m.Groups, 0 <= g) : zdj T m = some (fT T m) /\ (∀ n, fT T m = (n, false) -> n = 0) /\ (∀ n, fT T m = (n, true) ->
  (∀ g ∈ m.Groups, g < (T.length : Int) /\ ∃ e ∈ T.getD g.toNat default, e.fM = m /\ e.fTime <= n) /\ 0 <= n /\ (n = 0 \/ ∃ g ∈ m.Groups, ∃ e ∈ T.getD g.toNat default, e.fM = m /\ e.fTime = n)) := by
 unfold fT
 rw [zdj]
 rcases zy7 T m m.Groups 0 h with h1 | ⟨n', h1, h2, h3, h4⟩
 rw [h1]
 refine ⟨rfl, fun n hn => (congrArg Prod.fst hn).symm, fun n hn => ?_⟩
 have := congrArg Prod.snd hn
 simp at this
 rw [h1]
 refine ⟨rfl, fun n hn => by have := congrArg Prod.snd hn; simp at this, fun n hn => ?_⟩
 have : n' = n := congrArg Prod.fst hn
 subst this
 exact ⟨h3, h2, h4⟩
end Go.Proofs
end
section
namespace Go.Proofs
open Go.Tm
set_option linter.unusedSimpArgs false
set_option linter.unusedVariables false
theorem ya1v (g : Int) (cs : List TCommand) (s : TSkeen) (h : cs.length <= 200) : (tms g s cs).length <= 200 := Nat.le_trans (ya2n g cs s) h
theorem ya04 : ∀ (T : List (List Torder_given)) (n : Int), 0 <= n -> n + 1000 * T.length <= 1000000000 -> (∀ x ∈ T, x.length <= 1000) -> ∃ n', zac T n = some n' /\ 0 <= n' /\ n' <= n + 1000 * T.length
 | [], n, h0, _, _ => ⟨n, rfl, h0, by simp⟩
 | x :: T, n, h0, h1, h2 => by
  have hx := h2 x (List.mem_cons_self ..)
  simp only [List.length_cons] at h1 ⊢
  rw [zac, zpy _ (by omega), if_neg (by omega)]
  obtain ⟨n', e1, e2, e3⟩ := ya04 T (n + (x.length : Int)) (by omega) (by omega) (fun y hy => h2 y (List.mem_cons_of_mem _ hy))
  exact ⟨n', e1, e2, by omega⟩
theorem ya03 : ∀ (T : List (List Torder_given)) (acc : List Torder_given), acc.length + 1000 * T.length < 1000000 -> (∀ x ∈ T, x.length <= 1000) -> zab T acc = some (acc ++ T.flatten)
 | [], acc, _, _ => by simp [ze0]
 | x :: T, acc, h, h2 => by
  have hx := h2 x (List.mem_cons_self ..)
  simp only [List.length_cons] at h
  rw [ze1, if_pos (by omega), ya03 T _ (by simp; omega) (fun y hy => h2 y (List.mem_cons_of_mem _ hy))]
  simp
theorem ya02 (T : List (List Torder_given)) (h : T.length <= 4) (h2 : ∀ x ∈ T, x.length <= 200) : zbt T = some T.flatten := by
 obtain ⟨n', e1, e2, e3⟩ := ya04 T 0 (by omega) (by omega) (fun x hx => Nat.le_trans (h2 x hx) (by omega))
 rw [zbt, e1]
 simp only [Option.bind_some]
 rw [if_pos ⟨e2, by omega⟩, ya03 T [] (by simp; omega) (fun x hx => Nat.le_trans (h2 x hx) (by omega))]
 simp
theorem ztv : ∀ (T : List (List Torder_given)), (∀ x ∈ T, x.length <= 200) -> T.flatten.length <= 200 * T.length
 | [], _ => by simp
 | x :: T, h => by
  have := ztv T fun y hy => h y (List.mem_cons_of_mem _ hy)
  have := h x (List.mem_cons_self ..)
  rw [List.flatten_cons, List.length_append, List.length_cons]; omega
def OneS (l : List Torder_given) : Prop := ∀ e ∈ l, ∀ e' ∈ l, e.fM.Id = e'.fM.Id -> e.fM = e'.fM
theorem zsq (k i : Int) (v : TMessage) : ∀ m : List (Int × TMessage), mget k (mput i v m) = if k = i then some v else mget k m := by
 intro m
 induction m with
 | nil => simp [mput, mget]
 | cons x m ih =>
  rw [mput]
  by_cases h : i = x.1
  rw [if_pos h]; simp only [mget]
  by_cases hk : k = i
  simp [hk]
  simp [hk, show k ≠ x.1 from fun e => hk (e.trans h.symm)]
  rw [if_neg h]; simp only [mget]
  by_cases hx : k = x.1
  simp [hx, show ¬ x.1 = i from fun e => h e.symm]
  rw [if_neg hx, ih, if_neg hx]
theorem ya0v (L : List Torder_given) (hL : L.length < 1000000) : ∀ (fu k : Nat) (m : List (Int × TMessage)), L.length - k < fu -> k <= L.length -> (∀ e ∈ L.take k, mget e.fM.Id m = some e.fM) -> (∀ i y, mget i m = some y -> ∃ e ∈ L, e.fM = y /\ e.fM.Id = i) ->
  (zbo L fu m (k : Int) = some (.inl false) /\ ¬ OneS L) \/ (zbo L fu m (k : Int) = some (.inr ()) /\ OneS L) := by
 intro fu
 induction fu with
 | zero => intro k m h; omega
 | succ fu ih =>
  intro k m h hk hm hm2
  rw [zbo]
  by_cases hlt : k < L.length
  have hput : ∀ i y, mget i (mput L[k].fM.Id L[k].fM m) = some y -> ∃ e ∈ L, e.fM = y /\ e.fM.Id = i := by
   intro i y hy
   rw [zsq] at hy
   by_cases hi : i = L[k].fM.Id
   rw [if_pos hi] at hy
   cases hy
   exact ⟨L[k], List.getElem_mem hlt, rfl, hi.symm⟩
   rw [if_neg hi] at hy; exact hm2 i y hy
  have hg : L.getD (k : Int).toNat default = L[k] := by rw [Int.toNat_natCast]; simp [List.getD, List.getElem?_eq_getElem hlt]
  rw [if_pos (by omega), if_pos (by omega), hg, zpy _ (by omega)]
  have hnext : (∀ y, mget L[k].fM.Id m = some y -> y = L[k].fM) -> ∀ e ∈ L.take (k + 1), mget e.fM.Id (mput L[k].fM.Id L[k].fM m) = some e.fM := by
   intro hy e he
   rw [List.take_succ_eq_append_getElem hlt] at he
   rw [zsq]
   rcases List.mem_append.1 he with he | he
   by_cases hid : e.fM.Id = L[k].fM.Id
   rw [if_pos hid]
   have := hm e he
   rw [hid] at this
   rw [hy _ this]
   rw [if_neg hid]; exact hm e he
   simp at he; subst he; simp
  cases hq : mget L[k].fM.Id m with
  | none =>
   simp only [Option.isSome_none, Bool.false_eq_true, if_false, Option.bind_some, false_and]
   exact ih (k + 1) _ (by omega) (by omega) (hnext (by rw [hq]; intro y hy; cases hy)) hput
  | some x =>
   simp only [Option.isSome_some, if_true, Option.getD_some, zyo, Option.bind_some, true_and]
   by_cases hx : x = L[k].fM
   rw [if_neg (by simpa using hx)]
   exact ih (k + 1) _ (by omega) (by omega) (hnext (by rw [hq]; intro y hy; cases hy; exact hx)) hput
   rw [if_pos (by simpa using hx)]
   obtain ⟨e, he, h1, h2⟩ := hm2 _ _ hq
   exact .inl ⟨rfl, fun ho => hx (h1.symm.trans (ho e he _ (List.getElem_mem hlt) h2))⟩
  rw [if_neg (by omega)]
  refine .inr ⟨rfl, fun e he e' he' hid => ?_⟩
  have ht : L.take k = L := List.take_of_length_le (by omega)
  rw [ht] at hm
  have h1 := hm e he
  have h2 := hm e' he'
  rw [hid] at h1
  rw [h1] at h2
  exact sj h2
theorem ya78 (T : List (List Torder_given)) (h : T.length <= 4) (h2 : ∀ x ∈ T, x.length <= 200) : ∃ b, zgb T = some b /\ (b = true ↔ OneS T.flatten) := by
 have hl := ztv T h2
 rw [zgb, ya02 T h h2]
 simp only [Option.bind_some]
 rcases ya0v T.flatten (by omega) (T.flatten.length + 1) 0 [] (by omega) (by omega) (by simp) (by intro i y hy; cases hy) with ⟨h1, h3⟩ | ⟨h1, h3⟩
 have h1 : zbo T.flatten (T.flatten.length + 1) [] 0 = _ := h1
 rw [h1]; exact ⟨false, rfl, by simp [h3]⟩
 have h1 : zbo T.flatten (T.flatten.length + 1) [] 0 = _ := h1
 rw [h1]; exact ⟨true, rfl, fun _ => h3, fun _ => rfl⟩
theorem ya1l (c0 : Tskeen_clock) {W : List TWait} (D : List TStamp) (hl : W.length <= 200) (hm : ∀ y l, W = y :: l -> (minW y l).Final = false) (fu : Nat) (hf : 0 < fu) (M : List TMessage) : zad c0 fu W D M = some (W, D, M) := by
 obtain ⟨fu, rfl⟩ : ∃ f, fu = f + 1 := ⟨fu - 1, by omega⟩
 rw [zad]
 cases hW : W with
 | nil => simp
 | cons y l =>
  rw [if_pos (by simp only [List.length_cons]; omega), zvr y l (by rw [hW] at hl; simp at hl; omega)]
  simp only [Option.bind_some, hm y l hW, Bool.false_eq_true, not_false_eq_true, if_true]
theorem zqj {g : Int} {s : TSkeen} {c : TCommand} (h : V s) (k2 : c.Kind = 2) (hne : s ≠ (stp g s c).1) : ∃ w ∈ s.Waits, w.Message.Id = c.Id /\ w.Final = false /\ w.Time <= c.Time := by
 apply Decidable.byContradiction
 intro hno
 apply hne
 have hj := h.j
 have hlw := h.lw
 have hld := h.ld
 have htw : ze8 s = some s := zt5 s (by omega) (by omega) (fun w hw => by have := (hj.w.1 w hw).1.groups; omega)
 have key : ∀ r, zd3 s g c = some r -> r.2.2 = 0 -> r.1 = s := by
  intro r hr h0
  rw [zd3, zu1 h] at hr
  simp only [Option.bind_some, not_true_eq_false, if_false] at hr
  by_cases hg : g < 0 \/ g >= 4
  rw [if_pos hg] at hr
  have := sj hr
  rw [<- this] at h0; simp at h0
  rw [if_neg hg] at hr
  obtain ⟨e, he, hc⟩ := zu0 c
  rw [he] at hr
  simp only [Option.bind_some] at hr
  by_cases he0 : e = 0
  case neg =>
   rw [if_pos he0] at hr
   have := sj hr
   rw [<- this] at h0; exact absurd h0 he0
  rw [if_neg (by simpa using he0), htw] at hr
  simp only [Option.bind_some] at hr
  obtain ⟨i1, i2, i3⟩ := (hc he0).2 k2
  rcases ztw s c.Id c.Time (by omega) hj i1 with ⟨hf, _⟩ | ⟨k, hk, b1, b2, b3, _⟩
  have hf : zce ⟨s⟩ c.Id c.Time = _ := hf
  rw [if_neg (by omega), if_pos k2, hf] at hr
  simp only [Option.bind_some] at hr
  have hd := ya1l ⟨s⟩ s.Done hlw h.m (s.Waits.length + 1) (by omega) []
  have hd' : zc7 ⟨⟨s.Clock, s.Waits, s.Done⟩⟩ = some ([], ⟨⟨s.Clock, s.Waits, s.Done⟩⟩) := by
   rw [zc7]
   have hd : zad ⟨⟨s.Clock, s.Waits, s.Done⟩⟩ (s.Waits.length + 1) s.Waits s.Done [] = _ := hd
   simp only [hd, Option.bind_some]
  rw [hd'] at hr
  simp only [Option.bind_some] at hr
  rw [if_neg (by omega)] at hr
  exact (congrArg Prod.fst (sj hr)).symm
  exact absurd ⟨_, List.getElem_mem hk, b1, b2, b3⟩ hno
 obtain ⟨r, hr, _, _, _, h5⟩ := zqi (g := g) (c := c) h
 rcases h5 with ⟨_, hs⟩ | ⟨h0, hs⟩
 rw [hs]
 rw [hs]; exact (key r hr h0).symm
end Go.Proofs
end
section
namespace Go.Proofs
open Go.Tm
set_option linter.unusedSimpArgs false
set_option linter.unusedVariables false
theorem zyu : ∀ (l : List Int) (k : Int), -1 <= k -> risG k l = true -> ∀ g ∈ l, 0 <= g /\ g < 4
 | [], _, _, _, g, hg => by cases hg
 | y :: l, k, hk, h, g, hg => by
  simp only [risG, Bool.and_eq_true, decide_eq_true_eq] at h
  rcases List.mem_cons.1 hg with rfl | hg
  omega
  exact zyu l y (by omega) h.2 g hg
theorem zm7.grp {m : TMessage} (h : zm7 m) : m.Groups ≠ [] /\ ∀ g ∈ m.Groups, 0 <= g /\ g < 4 := by
 have := (zva m).1 h
 exact ⟨this.1, zyu _ _ (by omega) this.2.1⟩
def ya0c (T : List (List Torder_given)) (s : TSkeen) (c : TCommand) (s' : TSkeen) : Prop := c.Kind = 2 -> s ≠ s' -> ∃ w ∈ s.Waits, w.Message.Id = c.Id /\ fT T w.Message = (c.Time, true)
def zpm (T : List (List Torder_given)) (g : Int) : TSkeen -> List TCommand -> Prop
 | _, [] => True
 | s, c :: l => ya0c T s c (stp g s c).1 /\ zpm T g (stp g s c).1 l
theorem ya17 (x : Torder_step) : ∀ (l : List TWait) (n : Nat), (∃ (k : Nat) (h : k < l.length), l[k].Message.Id = x.fC.Id /\ zb4 (fun x0 => zeg x0 x) l n = some (.inl ((n + k : Nat) : Int))) \/ (∀ w ∈ l, w.Message.Id ≠ x.fC.Id) := by
 intro l
 induction l with
 | nil => intro n; exact .inr (by simp)
 | cons y l ih =>
  intro n
  rw [zb4]
  simp only [zeg, Option.bind_some]
  by_cases h : y.Message.Id = x.fC.Id
  rw [if_pos (by simpa using h)]; exact .inl ⟨0, by simp, h, rfl⟩
  rw [if_neg (by simpa using h)]
  have ih := ih (n + 1)
  simp only [zeg, Option.bind_some] at ih
  rcases ih with ⟨k, hk, h1, h2⟩ | h1
  exact .inl ⟨k + 1, by simp; omega, by simpa using h1, by rw [h2]; congr 3; omega⟩
  refine .inr fun w hw => ?_
  rcases List.mem_cons.1 hw with rfl | hw
  exact h
  exact h1 w hw
theorem ya3d (T : List (List Torder_given)) {g : Int} {s : TSkeen} {c : TCommand} (h : V s) (out : List TMessage) (b : Bool) : ∃ b', zfs ⟨c, s, (stp g s c).1, out⟩ T b = some (T, b') /\ (b' = true ↔ b = true /\ ya0c T s c (stp g s c).1) := by
 rw [zfs, ya6w]
 simp only
 by_cases k2 : c.Kind = 2
 simp only [k2, not_true_eq_false, not_false_eq_true, if_true, Option.bind_some, false_or, decide_eq_true_eq]
 by_cases hs : s = (stp g s c).1
 rw [if_pos hs]
 exact ⟨b, rfl, fun hb => ⟨hb, fun _ hne => absurd hs hne⟩, fun h => h.1⟩
 rw [if_neg hs, zea]
 obtain ⟨w, hw, hid, _⟩ := zqj h k2 hs
 rcases ya17 ⟨c, s, (stp g s c).1, out⟩ s.Waits 0 with ⟨k, hk, e1, e2⟩ | e1
 rw [e2]
 simp only [Option.bind_some, Nat.zero_add]
 rw [if_pos ⟨by omega, by omega⟩, Int.toNat_natCast]
 have hg : s.Waits.getD k default = s.Waits[k] := by simp [List.getD, List.getElem?_eq_getElem hk]
 have hm := (h.j.w.1 _ (List.getElem_mem hk)).1
 rw [hg, (ya3n T s.Waits[k].Message fun x hx => (hm.grp.2 x hx).1).1]
 simp only [Option.bind_some]
 refine ⟨_, rfl, ?_⟩
 simp only [Bool.and_eq_true, beq_iff_eq]
 refine ⟨fun hb => ⟨hb.1.1, fun _ _ => ⟨_, List.getElem_mem hk, e1, Prod.ext hb.2 hb.1.2⟩⟩, fun ⟨hb, hk2⟩ => ?_⟩
 obtain ⟨w1, hw1, hi1, hf1⟩ := hk2 k2 hs
 have : w1 = s.Waits[k] := zq5 h.j.w.2 hw1 (List.getElem_mem hk) (hi1.trans e1.symm)
 rw [<- this]
 exact ⟨⟨hb, congrArg Prod.snd hf1⟩, congrArg Prod.fst hf1⟩
 exact absurd hid (e1 w hw)
 rw [if_neg (by simpa using k2)]
 simp only [Option.bind_some]
 rw [if_pos (.inl k2)]
 exact ⟨b, rfl, fun hb => ⟨hb, fun hk => absurd hk k2⟩, fun h => h.1⟩
theorem zxx (T : List (List Torder_given)) (g : Int) : ∀ (cs : List TCommand) (s : TSkeen) (b : Bool), V s -> ∃ b', zc8 g cs T b s.Clock s.Waits s.Done = some (T, b', (fin g s cs).Clock, (fin g s cs).Waits, (fin g s cs).Done) /\ (b' = true ↔ b = true /\ zpm T g s cs) := by
 intro cs
 induction cs with
 | nil => intro s b _; exact ⟨b, rfl, fun h => ⟨h, trivial⟩, fun h => h.1⟩
 | cons c cs ih =>
  intro s b h
  obtain ⟨r, hr, h1, _, _, h5⟩ := zqi (g := g) (c := c) h
  have hr' : zd3 ⟨s.Clock, s.Waits, s.Done⟩ g c = some r := hr
  rw [zc8, hr']
  simp only [Option.bind_some, fin]
  have hst : (if ¬ (r.2.2 = 0) then some (s.Clock, s.Waits, s.Done, []) else some (r.1.Clock, r.1.Waits, r.1.Done, r.2.1)) = some ((stp g s c).1.Clock, (stp g s c).1.Waits, (stp g s c).1.Done, (stp g s c).2) := by
   rcases h5 with ⟨he, hs⟩ | ⟨he, hs⟩
   rw [hs, if_pos he]
   rw [hs, if_neg (by simpa using he)]
  rw [hst]
  simp only [Option.bind_some]
  obtain ⟨b1, e1, e2⟩ := ya3d T (g := g) (c := c) h (stp g s c).2 b
  have e1 : zfs ⟨c, ⟨s.Clock, s.Waits, s.Done⟩, ⟨(stp g s c).1.Clock, (stp g s c).1.Waits, (stp g s c).1.Done⟩, (stp g s c).2⟩ T b = _ := e1
  rw [e1]
  simp only [Option.bind_some]
  obtain ⟨b2, e3, e4⟩ := ih (stp g s c).1 b1 h1
  exact ⟨b2, e3, by rw [e4, e2, and_assoc]; rfl⟩
theorem ya0r (T : List (List Torder_given)) (g : Int) (hg : 0 <= g /\ g < 4) (l : List (List UInt8)) (cs : List TCommand) (hl : l.length <= 200) (hc : zi2 l = some cs) (b : Bool) : ∃ s e b', zfm g l T b = some (s, e, T, b') /\ (b' = true ↔ b = true /\ zpm T g zSk cs) := by
 rw [zfm, if_neg (by omega), ya06, if_neg (by omega), hc]
 simp only [Option.bind_some, not_true_eq_false, if_false]
 obtain ⟨b', h1, h2⟩ := zxx T g cs zSk b zs9
 have h1 : zc8 g cs T b 0 [] [] = _ := h1
 have h3 := ya1u (ya7o g cs zSk zs9).1
 have h3 : ze8 ⟨(fin g zSk cs).Clock, (fin g zSk cs).Waits, (fin g zSk cs).Done⟩ = _ := h3
 rw [zi1]
 simp only [Option.bind_some, h1, h3]
 exact ⟨_, _, b', rfl, h2⟩
theorem zvx (T : List (List Torder_given)) : ∀ (r : List (List (List UInt8))) (css : List (List TCommand)) (n : Nat) (b : Bool), cssS r = some css -> n + r.length <= 4 -> ∃ b', zdq r n T b = some b' /\ (b' = true ↔ b = true /\ ∀ (i : Nat) (h : i < css.length), zpm T ((n + i : Nat) : Int) zSk css[i]) := by
 intro r
 induction r with
 | nil => intro css n b h _; simp [cssS] at h; subst h; exact ⟨b, rfl, fun hb => ⟨hb, by simp⟩, fun h => h.1⟩
 | cons l r ih =>
  intro css n b h hn
  simp only [List.length_cons] at hn
  simp only [cssS] at h
  split at h
  rename_i hl
  split at h
  rename_i cs hc
  obtain ⟨d, hd, rfl⟩ := Option.map_eq_some_iff.1 h
  obtain ⟨s, e, b1, e1, e2⟩ := ya0r T (n : Int) (by omega) l cs hl hc b
  rw [zdq, e1]
  simp only [Option.bind_some]
  obtain ⟨b2, e3, e4⟩ := ih d (n + 1) b1 hd (by omega)
  refine ⟨b2, e3, ?_⟩
  rw [e4, e2]
  constructor
  rintro ⟨⟨hb, h0⟩, hk⟩
  refine ⟨hb, fun i hi => ?_⟩
  cases i with
  | zero => exact h0
  | succ i =>
   have := hk i (by simpa using hi)
   rw [show n + (i + 1) = n + 1 + i by omega]
   simpa using this
  rintro ⟨hb, hk⟩
  refine ⟨⟨hb, hk 0 (by simp)⟩, fun i hi => ?_⟩
  have := hk (i + 1) (by simpa using hi)
  rw [show n + (i + 1) = n + 1 + i by omega] at this
  simpa using this
  cases h
  cases h
theorem ya1y {r : List (List (List UInt8))} {css : List (List TCommand)} (h : cssS r = some css) (n : Nat) : ∀ x ∈ tabS n css, x.length <= 200 := by
 intro x hx
 obtain ⟨i, hi, rfl⟩ := List.getElem_of_mem hx
 have hi' : i < css.length := by rw [znw] at hi; exact hi
 have e := zt8 css n i hi'
 rw [List.getD_eq_getElem?_getD, List.getElem?_eq_getElem hi] at e
 have hlen := zol r css h
 obtain ⟨h1, h2⟩ := ztz r css h i (by omega) hi'
 have e : (tabS n css)[i] = _ := e
 rw [e]
 exact ya1v _ _ _ (by rw [zom _ _ h2]; exact h1)
theorem zzm (r : List (List (List UInt8))) : (∃ e, e ≠ 0 /\ (r.length <= 4 -> cssS r = none) /\ zf3 r = some ([], e) /\ zfh r = some (false, e)) \/ ∃ css b, r.length <= 4 /\ cssS r = some css /\ zf3 r = some (tabS 0 css, 0) /\ zfh r = some (b, 0) /\
  (b = true ↔ OneS (tabS 0 css).flatten /\ ∀ (i : Nat) (h : i < css.length), zpm (tabS 0 css) (i : Int) zSk css[i]) := by
 rw [zfh]
 rcases of_eq r with ⟨e, he, hn, h1⟩ | ⟨css, h1, h2, h3⟩
 rw [h1]
 simp only [Option.bind_some, he, not_false_eq_true, if_true]
 exact .inl ⟨e, he, hn, rfl, rfl⟩
 rw [h3]
 simp only [Option.bind_some, not_true_eq_false, if_false]
 have hlen := zol r css h2
 obtain ⟨b1, e1, e2⟩ := ya78 (tabS 0 css) (by rw [znw]; omega) (ya1y h2 0)
 rw [e1]
 simp only [Option.bind_some]
 obtain ⟨b2, e3, e4⟩ := zvx (tabS 0 css) r css 0 b1 h2 (by omega)
 rw [e3]
 refine .inr ⟨css, b2, h1, h2, rfl, rfl, ?_⟩
 rw [e4, e2]
 simp only [Nat.zero_add]
end Go.Proofs
end
section
namespace Go.Proofs
open Go.Tm
set_option linter.unusedSimpArgs false
set_option linter.unusedVariables false
structure Rn (s : TSkeen) (ts : List Torder_given) : Prop where
 a : ∀ w ∈ s.Waits, ∃ e ∈ ts, e.fM = w.Message
 b : ∀ e ∈ ts, (∃ w ∈ s.Waits, w.Message.Id = e.fM.Id) \/ ∃ x ∈ s.Done, x.Id = e.fM.Id
 c : (ts.map fun e => e.fM.Id).Nodup
 d : ∀ e ∈ ts, 1 <= e.fTime /\ e.fTime <= 1073741824
theorem ya16 {α : Type} {l : List α} (h : l ≠ []) : ∃ x, l.getLast? = some x /\ x ∈ l := ⟨l.getLast h, List.getLast?_eq_some_getLast h, List.getLast_mem h⟩
theorem ya2r {g : Int} {s : TSkeen} {c : TCommand} {ts : List Torder_given} (hV : V s) (hI : Rn s ts) :
  Rn (stp g s c).1 (ts ++ if ((stp g s c).1.Waits.length : Int) > (s.Waits.length : Int) then [⟨(stp g s c).1.Clock, c.Message⟩] else []) := by
 rcases zxh s g c hV with ⟨e, he, ha, _⟩ | ⟨W, ck, ws, W', hst, ha, hV', hck, h1, h2, h3, h4, h5⟩
 have hs : stp g s c = (s, []) := by simp only [stp, ha, if_neg he]
 rw [hs, if_neg (by simp), List.append_nil]
 exact hI
 have hs : stp g s c = (⟨ck, W', s.Done ++ ws.map stW⟩, ws.map TWait.Message) := by simp only [stp, ha, if_true]
 rw [hs]
 have hj := hV.j
 -- ids that waited or were delivered stay so
 have hb : ∀ e ∈ ts, (∀ w ∈ s.Waits, ∃ v ∈ W, v.Message.Id = w.Message.Id) -> (∃ w ∈ W', w.Message.Id = e.fM.Id) \/ ∃ x ∈ s.Done ++ ws.map stW, x.Id = e.fM.Id := by
  intro e he hk
  rcases hI.b e he with ⟨w, hw, hid⟩ | ⟨x, hx, hid⟩
  obtain ⟨v, hv, hvi⟩ := hk w hw
  rcases h3 v hv with h | h
  exact .inl ⟨v, h, hvi.trans hid⟩
  exact .inr ⟨stW v, List.mem_append_right _ (List.mem_map_of_mem h), hvi.trans hid⟩
  exact .inr ⟨x, List.mem_append_left _ hx, hid⟩
 rcases hst with ⟨rfl, _⟩ | ⟨_, _, hc, hW⟩ | ⟨_, _, k, hk, b1, b2, b3, hWe⟩
 rw [if_neg (by show ¬ ((W'.length : Int) > _); omega), List.append_nil]
 exact ⟨fun w hw => hI.a w (h2 w hw), fun e he => hb e he fun w hw => ⟨w, hw, rfl⟩, hI.c, hI.d⟩
 have hsub : ∀ w ∈ s.Waits, w ∈ W := by
  intro w hw
  rw [hW]
  have : w ∈ s.Waits.take (plc c.Message.Id s.Waits) ++ s.Waits.drop (plc c.Message.Id s.Waits) := by rw [List.take_append_drop]; exact hw
  rcases List.mem_append.1 this with h | h
  exact List.mem_append_left _ h
  exact List.mem_append_right _ (List.mem_cons_of_mem _ h)
 have hnew : (⟨c.Message, s.Clock + 1, false⟩ : TWait) ∈ W := by rw [hW]; simp
 have hold : ∀ w ∈ W, w ∈ s.Waits \/ w = ⟨c.Message, s.Clock + 1, false⟩ := by
  intro w hw
  rw [hW] at hw
  rcases List.mem_append.1 hw with hw | hw
  exact .inl (List.mem_of_mem_take hw)
  rcases List.mem_cons.1 hw with hw | hw
  exact .inr hw
  exact .inl (List.mem_of_mem_drop hw)
 have hws : ws = [] := by
  apply Decidable.byContradiction
  intro hne
  obtain ⟨u, hu, hum⟩ := ya16 (l := ws) hne
  have huW := h1 u hum
  have hus : u ∈ s.Waits := by
   rcases hold u huW.1 with h | h
   exact h
   rw [h] at huW; cases huW.2
  have hlast : (s.Done ++ ws.map stW).getLast? = some (stW u) := by
   rw [List.getLast?_append, List.getLast?_map, hu]; rfl
  cases hy : s.Waits with
  | nil => rw [hy] at hus; cases hus
  | cons y l =>
   have hf := hV.m y l hy
   have hmm : minW y l ∈ s.Waits := by
    rw [hy]
    rcases ztn l y with h | h
    rw [h]; exact List.mem_cons_self ..
    exact List.mem_cons_of_mem _ h
   have hmW : minW y l ∈ W' := by
    rcases h3 _ (hsub _ hmm) with h | h
    exact h
    have := (h1 _ h).2; rw [hf] at this; cases this
   have h6 := (hV'.w.1 _ hmW).2.2.2.2 _ hlast
   obtain ⟨m1, m2⟩ := zrb l y
   rw [hy] at hus
   rcases List.mem_cons.1 hus with rfl | h
   exact m1 h6
   exact m2 u h h6
 subst hws
 have hlen : W'.length = W.length := by simpa using h4
 have hWl : W.length = s.Waits.length + 1 := by rw [hW]; simp; omega
 have hall : ∀ w ∈ W, w ∈ W' := fun w hw => (h3 w hw).resolve_right (by simp)
 have hid : ∀ w ∈ s.Waits, w.Message.Id ≠ c.Message.Id := by
  intro w hw he
  have := zq5 hV'.w.2 (hall _ (hsub w hw)) (hall _ hnew) he
  have ht := (hj.w.1 w hw).2.2.1
  rw [this] at ht
  have ht : s.Clock + 1 <= s.Clock := ht
  omega
 have hdn : ∀ x ∈ s.Done, x.Id ≠ c.Message.Id := fun x hx => (hV'.w.1 _ (hall _ hnew)).2.2.2.1 x (List.mem_append_left _ hx)
 have hgt : ((W'.length : Nat) : Int) > (s.Waits.length : Int) := by omega
 rw [if_pos hgt]
 refine ⟨fun w hw => ?_, fun e he => ?_, ?_, fun e he => ?_⟩
 rcases hold w (h2 w hw) with h | h
 obtain ⟨e, he, hm⟩ := hI.a w h
 exact ⟨e, List.mem_append_left _ he, hm⟩
 exact ⟨⟨ck, c.Message⟩, by simp, by rw [h]⟩
 rcases List.mem_append.1 he with he | he
 exact hb e he fun w hw => ⟨w, hsub w hw, rfl⟩
 simp only [List.mem_singleton] at he
 subst he
 exact .inl ⟨_, hall _ hnew, rfl⟩
 rw [List.map_append, List.map_cons, List.map_nil]
 refine List.nodup_append.2 ⟨hI.c, by simp, fun x hx y hy hxy => ?_⟩
 have hy : y = c.Message.Id := by simpa using hy
 obtain ⟨e, he, rfl⟩ := List.mem_map.1 hx
 have hxy : e.fM.Id = c.Message.Id := hxy.trans hy
 rcases hI.b e he with ⟨w, hw, h⟩ | ⟨x, hx, h⟩
 exact hid w hw (h.trans hxy)
 exact hdn x hx (h.trans hxy)
 rcases List.mem_append.1 he with he | he
 exact hI.d e he
 simp only [List.mem_singleton] at he
 subst he
 have := hV.c0
 exact ⟨by show 1 <= ck; omega, hV'.c1⟩
 have hWl : W.length = s.Waits.length := by rw [hWe]; simp
 rw [if_neg (by show ¬ ((W'.length : Int) > _); omega), List.append_nil]
 refine ⟨fun w hw => ?_, fun e he => hb e he fun w hw => ?_, hI.c, hI.d⟩
 have := h2 w hw
 rw [hWe] at this
 rcases List.mem_or_eq_of_mem_set this with h | h
 exact hI.a w h
 obtain ⟨e, he, hm⟩ := hI.a _ (List.getElem_mem hk)
 exact ⟨e, he, by rw [hm, h]⟩
 obtain ⟨i, hi, rfl⟩ := List.getElem_of_mem hw
 by_cases hik : i = k
 subst hik
 exact ⟨⟨s.Waits[i].Message, c.Time, true⟩, by rw [hWe]; exact List.mem_set hi _, rfl⟩
 refine ⟨s.Waits[i], ?_, rfl⟩
 rw [hWe]
 have : (s.Waits.set k ⟨s.Waits[k].Message, c.Time, true⟩)[i]'(by simpa using hi) = s.Waits[i] := by rw [List.getElem_set, if_neg (fun h => hik h.symm)]
 rw [<- this]
 exact List.getElem_mem _
theorem ya1z {g : Int} : ∀ (cs : List TCommand) (s : TSkeen) (ts : List Torder_given), V s -> Rn s ts -> Rn (fin g s cs) (ts ++ tms g s cs)
 | [], s, ts, _, h => by simpa [fin, tms] using h
 | c :: cs, s, ts, hV, h => by
  obtain ⟨r, _, hV', _⟩ := zqi (g := g) (c := c) hV
  have := ya1z (g := g) cs _ _ hV' (ya2r (g := g) (c := c) hV h)
  rw [fin, tms, <- List.append_assoc]
  exact this
theorem ya2t (g : Int) (cs : List TCommand) : Rn (fin g zSk cs) (tms g zSk cs) := by
 have := ya1z (g := g) cs zSk [] zs9 ⟨by simp [zSk], by simp, by simp, by simp⟩
 simpa using this
end Go.Proofs
end
section
namespace Go.Proofs
open Go.Tm
set_option linter.unusedSimpArgs false
set_option linter.unusedVariables false
theorem ag1 : ∀ (l : List TStamp) (m : List (Int × Int)), ∃ m', ze9 l m = some m' /\ ∀ k, ((mget k m').getD 0 > 0 ↔ (mget k m).getD 0 > 0 \/ k ∈ l.map TStamp.Id)
 | [], m => ⟨m, rfl, by simp⟩
 | y :: l, m => by
  obtain ⟨m', h1, h2⟩ := ag1 l (mput y.Id 1 m)
  refine ⟨m', h1, fun k => ?_⟩
  rw [h2 k, zuo]
  by_cases hk : k = y.Id
  subst hk; simp
  rw [if_neg hk]; simp [hk]
theorem ag2 (m : List (Int × Int)) (p : TStamp -> Bool) (hp : ∀ x, ((mget x.Id m).getD 0 > 0 ↔ p x = true)) : ∀ (l acc : List TStamp), acc.length + l.length < 1000000 -> zdk m l acc = some (acc ++ l.filter p)
 | [], acc, _ => by simp [zie]
 | y :: l, acc, h => by
  simp only [List.length_cons] at h
  rw [zif]
  by_cases hy : (mget y.Id m).getD 0 > 0
  rw [if_pos hy, if_pos (by simp; omega)]
  simp only [Option.bind_some]
  rw [ag2 m p hp l _ (by simp; omega), List.filter_cons, if_pos ((hp y).1 hy)]
  simp
  rw [if_neg hy]
  simp only [Option.bind_some]
  rw [ag2 m p hp l _ (by omega), List.filter_cons, if_neg (fun h => hy ((hp y).2 h))]
def com (a b : List TStamp) : List TStamp := a.filter fun x => decide (x.Id ∈ b.map TStamp.Id)
theorem ya81 (a b : List TStamp) (h : a.length <= 1000) : zfn a b = some (com a b) := by
 obtain ⟨m', h1, h2⟩ := ag1 b []
 rw [zfn, h1]
 simp only [Option.bind_some]
 rw [ag2 m' (fun x => decide (x.Id ∈ b.map TStamp.Id)) (fun x => by rw [h2]; simp [mget]) a [] (by simp; omega)]
 simp [com]
theorem ya71 (y : TStamp) : ∀ (l : List TStamp) (b : Bool), zaw y l b = some (b || decide (y.Id ∈ l.map TStamp.Id))
 | [], b => by simp [zaw]
 | x :: l, b => by
  rw [zaw, ya71 y l]
  congr 1
  rw [Bool.or_assoc]
  congr 1
  rw [Bool.eq_iff_iff]
  simp only [Bool.or_eq_true, beq_iff_eq, decide_eq_true_eq, List.map_cons, List.mem_cons]
  constructor
  rintro (h | h)
  exact .inl h.symm
  exact .inr h
  rintro (h | h)
  exact .inl h.symm
  exact .inr h
theorem ya2v (b : List TStamp) : ∀ (l acc : List TStamp), acc.length + l.length < 1000000 -> zbw b l acc = some (acc ++ com l b)
 | [], acc, _ => by simp [zg9, com]
 | y :: l, acc, h => by
  simp only [List.length_cons] at h
  rw [zga, ya71, Bool.false_or]
  simp only [Option.bind_some, com, List.filter_cons]
  by_cases hy : y.Id ∈ b.map TStamp.Id
  rw [decide_eq_true hy, if_pos rfl, if_pos (by simp; omega)]
  simp only [Option.bind_some]
  rw [ya2v b l _ (by simp; omega), if_pos trivial]
  simp [com]
  rw [decide_eq_false hy, if_neg (by simp)]
  simp only [Option.bind_some]
  rw [ya2v b l _ (by omega), if_neg (by simp)]
  rfl
theorem zz0 (a b : List TStamp) (h : a.length <= 1000) : zd2 a b = some (com a b) := by
 rw [zd2, ya2v b a [] (by simp; omega)]
 rfl
theorem ya3x (a b : List TStamp) (ha : a.length <= 1000) (hb : b.length <= 1000) : ∃ r, zig a b = some r /\ zeo a b = some r := by
 rw [zig, zeo, ya81 a b ha, ya81 b a hb, zz0 a b ha, zz0 b a hb]
 simp only [Option.bind_some]
 rw [if_pos (by omega), if_pos (by omega), if_pos (by omega), if_pos (by omega), ya2d, ya6v]
 exact ⟨_, rfl, rfl⟩
theorem zqo (b : TSkeen) : ∀ (l : List TWait) (n : Nat), n + l.length = b.Waits.length -> zbr b l n = some (if l = b.Waits.drop n then .inr () else .inl false)
 | [], n, h => by simp [zbr]; simp at h; omega
 | y :: l, n, h => by
  simp only [List.length_cons] at h
  have hn : n < b.Waits.length := by omega
  rw [zbr, if_pos hn, getW hn, zp0, List.drop_eq_getElem_cons hn]
  simp only [Option.bind_some, decide_eq_true_eq]
  by_cases he : y = b.Waits[n]
  rw [if_neg (by simp [he]), zqo b l (n + 1) (by omega), he]
  simp only [List.cons.injEq, true_and]
  rw [if_pos, if_neg (fun h => he (List.cons.inj h).1)]
  apply Decidable.byContradiction
  intro hc
  apply he
  generalize b.Waits[n] = z at hc ⊢
  obtain ⟨y1, y2, y3⟩ := y
  obtain ⟨z1, z2, z3⟩ := z
  simp at hc ⊢
  exact ⟨hc.1.1, hc.1.2, hc.2⟩
theorem zyq (a b : TSkeen) : zev a b = some (decide (a = b)) := by
 obtain ⟨a1, a2, a3⟩ := a
 rw [zev]
 by_cases h : (¬ (a1 = b.Clock)) \/ (¬ ((a2.length : Int) = (b.Waits.length : Int)))
 simp only
 rw [if_neg (fun k => k h)]
 simp only [Option.bind_some]
 rw [if_pos (.inl h), decide_eq_false]
 rintro rfl
 simp at h
 simp only
 rw [if_pos h, ya6v]
 simp only [Option.bind_some, decide_eq_true_eq]
 have hlen : 0 + a2.length = b.Waits.length := by omega
 by_cases hd : a3 = b.Done
 rw [if_neg (fun k => k.elim h fun k => k hd), zqo b a2 0 hlen, List.drop_zero]
 obtain ⟨b1, b2, b3⟩ := b
 simp only at h hd ⊢
 by_cases hw : a2 = b2
 rw [if_pos hw]
 have : a1 = b1 := by omega
 simp [this, hw, hd]
 rw [if_neg hw]; simp [hw]
 rw [if_pos (.inr hd), decide_eq_false]
 rintro rfl
 exact hd rfl
theorem ya8h (l : List (List UInt8)) : zdc l = some (askS 0 l) := by
 have h := ya1q 0 l
 rw [zh2, if_neg (by omega)] at h
 cases hc : zdc l with
 | none => rw [hc] at h; simp at h
 | some x => rw [hc] at h; simpa using h
theorem ya09 {g : Int} (h : 0 <= g /\ g < 4) (l : List (List UInt8)) : askS g l = askS 0 l := by
 unfold askS
 rw [if_neg (by omega), if_neg (show ¬ ((0 : Int) < 0 \/ (0 : Int) >= 4) by omega)]
theorem ya2i : ∀ (r : List (List (List UInt8))) (n : Nat) (acc : List (List Torder_given)), n + r.length <= 4 -> acc.length <= n ->
  (∃ e, e ≠ 0 /\ zc1 r = some (.inl e) /\ ze2 r n acc = some (.inl ([], e))) \/ (zc1 r = some (.inr ()) /\ ∃ css, cssS r = some css)
 | [], n, acc, _, _ => .inr ⟨rfl, [], rfl⟩
 | l :: r, n, acc, hn, ha => by
  simp only [List.length_cons] at hn
  rw [zic, zc1, ya8h]
  simp only [Option.bind_some]
  rcases zwf (n : Int) l with ⟨e, he, hk, ht⟩ | ⟨cs, hk, hc, hl, ht⟩
  rw [ht, <- ya09 (g := (n : Int)) (by omega) l, hk, if_pos he]
  exact .inl ⟨e, he, rfl, by simp [he]⟩
  rw [ht, <- ya09 (g := (n : Int)) (by omega) l, hk, if_neg (by simp)]
  simp only [Option.bind_some, not_true_eq_false, if_false]
  rw [if_pos (by simp; omega)]
  rcases ya2i r (n + 1) (acc ++ [tms (n : Int) zSk cs]) (by omega) (by simp; omega) with ⟨e, h1, h2, h3⟩ | ⟨h1, css, h2⟩
  exact .inl ⟨e, h1, h2, h3⟩
  exact .inr ⟨h1, cs :: css, by simp [cssS, hl, hc, h2]⟩
theorem ya24 (r : List (List (List UInt8))) : (∃ e, e ≠ 0 /\ zdo r = some e /\ zf3 r = some ([], e)) \/ (zdo r = some 0 /\ ∃ css, r.length <= 4 /\ cssS r = some css /\ zf3 r = some (tabS 0 css, 0)) := by
 rw [zdo]
 by_cases h : (r.length : Int) > 4
 rw [zf3, if_pos h, if_pos h]; exact .inl ⟨4, by omega, rfl, rfl⟩
 rw [if_neg h]
 rcases ya2i r 0 [] (by omega) (by simp) with ⟨e, he, h1, h2⟩ | ⟨h1, css, h2⟩
 rw [h1, zf3, if_neg h, h2]; exact .inl ⟨e, he, rfl, rfl⟩
 rw [h1]
 rcases of_eq r with ⟨e, _, hn, _⟩ | ⟨css, h3, h4, h5⟩
 rw [hn (by omega)] at h2; cases h2
 exact .inr ⟨rfl, css, h3, h4, h5⟩
theorem zyj {g : Int} (hg : 0 <= g /\ g < 4) {l : List (List UInt8)} {cs : List TCommand} (hl : l.length <= 200) (hc : zi2 l = some cs) : zcp g l = some ((tms g zSk cs).map gvn) := by
 have hn := zom l cs hc
 rw [zcp, zwj g hg l cs hc hl]
 simp only [Option.bind_some]
 rw [zxm g cs zSk [] (by simp; omega)]
 rfl
theorem l2a (m : TMessage) : ∀ (l : List Torder_given) (n : Int), (∀ e ∈ l, e.fM ≠ m) -> zb7 m (l.map gvn) n = some n
 | [], n, _ => rfl
 | y :: l, n, h => by
  rw [List.map_cons, zb7, zp0]
  simp only [Option.bind_some]
  have hy : ¬ ((gvn y).Message = m) := h y (List.mem_cons_self ..)
  rw [if_neg (fun k => hy (of_decide_eq_true k))]
  exact l2a m l n fun e he => h e (List.mem_cons_of_mem _ he)
theorem l2b (m : TMessage) : ∀ (l : List Torder_given) (n : Int) (k : Nat) (hk : k < l.length), (l.map fun e => e.fM.Id).Nodup -> l[k].fM = m -> zb7 m (l.map gvn) n = some l[k].fTime
 | y :: l, n, k, hk, hn, hm => by
  rw [List.map_cons, List.nodup_cons] at hn
  rw [List.map_cons, zb7, zp0]
  simp only [Option.bind_some]
  cases k with
  | zero =>
   have hm : (gvn y).Message = m := hm
   rw [if_pos (decide_eq_true hm)]
   simp only [Option.bind_some]
   have hm : y.fM = m := hm
   exact l2a m l _ fun e he hc => hn.1 (by rw [hm, <- hc]; exact List.mem_map_of_mem (f := fun e : Torder_given => e.fM.Id) he)
  | succ k =>
   have hk' : k < l.length := by simpa using hk
   have hm : l[k].fM = m := hm
   have hy : ¬ ((gvn y).Message = m) := by
    intro hc
    have hc : y.fM = m := hc
    exact hn.1 (by rw [hc, <- hm]; exact List.mem_map_of_mem (f := fun e : Torder_given => e.fM.Id) (List.getElem_mem hk'))
   rw [if_neg (fun k => hy (of_decide_eq_true k))]
   exact l2b m l n k hk' hn.2 hm
theorem ya7g {a0 : List (List (List UInt8))} {css : List (List TCommand)} (hc : cssS a0 = some css) (h4 : a0.length <= 4) (m : TMessage) : ∀ (gs : List Int) (n : Int), (∀ g ∈ gs, 0 <= g) ->
  zca a0 m gs n = zb6 (tabS 0 css) m gs n
 | [], n, _ => rfl
 | g :: gs, n, h0 => by
  have hg := h0 g (List.mem_cons_self ..)
  have hlen := zol a0 css hc
  have hTl : (tabS 0 css).length = a0.length := by rw [znw, hlen]
  rw [zca, zb6, hTl]
  by_cases h1 : g >= (a0.length : Int)
  rw [if_pos h1, if_pos h1]; rfl
  have hi : g.toNat < a0.length := by omega
  obtain ⟨l1, l2⟩ := ztz a0 css hc g.toNat hi (by omega)
  have hgd : a0.getD g.toNat default = a0[g.toNat] := by simp [List.getD, List.getElem?_eq_getElem hi]
  have hT := zt8 css 0 g.toNat (by omega)
  rw [Nat.zero_add, Int.toNat_of_nonneg hg] at hT
  rw [if_neg h1, if_neg h1, if_pos ⟨hg, by omega⟩, if_pos ⟨hg, by omega⟩, hgd, zyj ⟨hg, by omega⟩ l1 l2, zba, hT]
  simp only [Option.bind_some]
  have hrn := ya2t g css[g.toNat]
  rcases zwy m (tms g zSk css[g.toNat]) 0 with ⟨k, hk, e1, e2⟩ | ⟨e1, e2⟩
  rw [e2, l2b m _ 0 k hk hrn.c e1]
  simp only [Option.bind_some, Nat.zero_add]
  have ht := (hrn.d _ (List.getElem_mem hk)).1
  have hge : (tms g zSk css[g.toNat]).getD k default = (tms g zSk css[g.toNat])[k] := by simp [List.getD, List.getElem?_eq_getElem hk]
  rw [if_neg (by omega), if_neg (by omega), if_pos ⟨hg, by omega⟩, if_pos ⟨by omega, by omega⟩, Int.toNat_natCast, hge]
  exact ya7g hc h4 m gs _ fun x hx => h0 x (List.mem_cons_of_mem _ hx)
  rw [e2, l2a m _ 0 e1]
  simp only [Option.bind_some]
  rw [if_pos trivial, if_pos (by omega)]
  try rfl
theorem ya27 {a0 : List (List (List UInt8))} {css : List (List TCommand)} (hc : cssS a0 = some css) (h4 : a0.length <= 4) (m : TMessage) (h : ∀ g ∈ m.Groups, 0 <= g) : ze4 a0 m = some (fT (tabS 0 css) m) := by
 rw [<- (ya3n (tabS 0 css) m h).1, ze4, zdj, ya7g hc h4 m m.Groups 0 h]
 try rfl
theorem ya3l (a0 : List (List (List UInt8))) (m : TMessage) : ∃ r, zid a0 m = some r /\ zen a0 m = some r := by
 rw [zid, zen]
 rcases ya24 a0 with ⟨e, he, h1, h2⟩ | ⟨h1, css, h4, hc, h2⟩
 rw [h1, h2]
 simp only [Option.bind_some]
 rw [if_pos he, if_neg he]
 refine ⟨_, rfl, ?_⟩
 simp [he]
 rw [h1, h2]
 simp only [Option.bind_some, if_true, zze, zrz]
 by_cases hm : MOk m
 have hM := ((zva m).2 hm).grp
 have hg : ∀ g ∈ m.Groups, 0 <= g := fun g hg => (hM.2 g hg).1
 simp only [hm, decide_true, if_true, not_true_eq_false, and_false, if_false, Option.bind_some, ya27 hc h4 m hg, (ya3n (tabS 0 css) m hg).1]
 exact ⟨_, rfl, rfl⟩
 simp [hm]
end Go.Proofs
end
section
namespace Go.Proofs
open Go.Tm
set_option linter.unusedSimpArgs false
set_option linter.unusedVariables false
theorem oneL : ∀ (r : List (List (List UInt8))) (css : List (List TCommand)) (n : Nat) (acc : List Ttowncrierref16_Given), cssS r = some css -> n + r.length <= 4 -> acc.length <= 200 * n ->
  zcj r n acc = some (acc ++ (tabS n css).flatten.map gvn)
 | [], css, n, acc, h, _, _ => by simp [cssS] at h; subst h; simp [zh6, tabS]
 | l :: r, css, n, acc, h, hn, ha => by
  simp only [List.length_cons] at hn
  simp only [cssS] at h
  split at h
  rename_i hl
  split at h
  rename_i cs hc
  obtain ⟨d, hd, rfl⟩ := Option.map_eq_some_iff.1 h
  have hle := ya1v (n : Int) cs zSk (by rw [zom _ _ hc]; exact hl)
  rw [zh7, zyj ⟨by omega, by omega⟩ hl hc]
  simp only [Option.bind_some]
  rw [if_pos (by rw [List.length_map]; omega), oneL r d (n + 1) _ hd (by omega) (by rw [List.length_append, List.length_map]; omega)]
  simp [tabS]
  cases h
  cases h
theorem one3 (L : List Ttowncrierref16_Given) (hL : L.length <= 800) (i : Nat) (hi : i < L.length) : ∀ (fu k : Nat), i - k < fu -> k <= i ->
  (zal L (i : Int) fu (k : Int) = some (.inl false) /\ ∃ (j : Nat) (hj : j < i), L[i].Message.Id = L[j].Message.Id /\ L[i].Message ≠ L[j].Message) \/
  (zal L (i : Int) fu (k : Int) = some (.inr ()) /\ ∀ (j : Nat) (hj : j < i), k <= j -> L[i].Message.Id = L[j].Message.Id -> L[i].Message = L[j].Message) := by
 intro fu
 induction fu with
 | zero => intro k h; omega
 | succ fu ih =>
  intro k h hk
  have gi : L.getD (i : Int).toNat default = L[i] := by rw [Int.toNat_natCast]; simp [List.getD, List.getElem?_eq_getElem hi]
  rw [zal]
  by_cases hlt : k < i
  have hkl : k < L.length := by omega
  have gk : L.getD (k : Int).toNat default = L[k] := by rw [Int.toNat_natCast]; simp [List.getD, List.getElem?_eq_getElem hkl]
  rw [if_pos (by omega), if_pos ⟨by omega, by omega⟩, if_pos ⟨by omega, by omega⟩, if_pos (fun _ => ⟨by omega, by omega⟩), if_pos (fun _ => ⟨by omega, by omega⟩), gi, gk, zpy _ (by omega)]
  have ih' := ih (k + 1) (by omega) (by omega)
  have go : (L[i].Message.Id = L[k].Message.Id -> L[i].Message = L[k].Message) -> 
    (zal L (i : Int) fu ((k : Int) + 1) = some (.inl false) /\ ∃ (j : Nat) (hj : j < i), L[i].Message.Id = L[j].Message.Id /\ L[i].Message ≠ L[j].Message) \/
    (zal L (i : Int) fu ((k : Int) + 1) = some (.inr ()) /\ ∀ (j : Nat) (hj : j < i), k <= j -> L[i].Message.Id = L[j].Message.Id -> L[i].Message = L[j].Message) := by
   intro hok
   rcases ih' with h1 | ⟨h1, h2⟩
   exact .inl h1
   refine .inr ⟨h1, fun j hj hkj => ?_⟩
   by_cases e : j = k
   subst e; exact hok
   exact h2 j hj (by omega)
  by_cases hid : L[i].Message.Id = L[k].Message.Id
  rw [if_pos hid, zp0]
  simp only [Option.bind_some, decide_eq_true_eq]
  by_cases hm : L[i].Message = L[k].Message
  rw [if_neg (fun q => q.2 hm)]
  exact go fun _ => hm
  rw [if_pos ⟨hid, hm⟩]
  exact .inl ⟨rfl, k, hlt, hid, hm⟩
  rw [if_neg hid]
  simp only [Option.bind_some, hid, false_and, if_false]
  exact go fun h => absurd h hid
  rw [if_neg (by omega)]
  exact .inr ⟨rfl, fun j hj hkj => by omega⟩
theorem one2 (L : List Ttowncrierref16_Given) (hL : L.length <= 800) : ∀ (fu k : Nat), L.length - k < fu -> k <= L.length ->
  (zax L fu (k : Int) = some (.inl false) /\ ∃ (i : Nat) (hi : i < L.length) (j : Nat) (hj : j < i), L[i].Message.Id = L[j].Message.Id /\ L[i].Message ≠ L[j].Message) \/
  (zax L fu (k : Int) = some (.inr ()) /\ ∀ (i : Nat) (hi : i < L.length), k <= i -> ∀ (j : Nat) (hj : j < i), L[i].Message.Id = L[j].Message.Id -> L[i].Message = L[j].Message) := by
 intro fu
 induction fu with
 | zero => intro k h; omega
 | succ fu ih =>
  intro k h hk
  rw [zax]
  by_cases hlt : k < L.length
  rw [if_pos (by omega), zpy _ (by omega)]
  rcases one3 L hL k hlt 900 0 (by omega) (by omega) with ⟨h1, j, hj, h2, h3⟩ | ⟨h1, h2⟩
  have h1 : zal L (k : Int) 900 0 = _ := h1
  rw [h1]
  exact .inl ⟨rfl, k, hlt, j, hj, h2, h3⟩
  have h1 : zal L (k : Int) 900 0 = _ := h1
  rw [h1]
  simp only [Option.bind_some]
  rcases ih (k + 1) (by omega) (by omega) with h3 | ⟨h3, h4⟩
  exact .inl h3
  refine .inr ⟨h3, fun i hi hki j hj => ?_⟩
  by_cases e : i = k
  subst e; exact h2 j hj (by omega)
  exact h4 i hi (by omega) j hj
  rw [if_neg (by omega)]
  exact .inr ⟨rfl, fun i hi hki => by omega⟩
theorem ya8c {a0 : List (List (List UInt8))} {css : List (List TCommand)} (hc : cssS a0 = some css) (h4 : a0.length <= 4) : ∃ b, zf8 a0 = some b /\ (b = true ↔ OneS (tabS 0 css).flatten) := by
 have hfl := ztv (tabS 0 css) (ya1y hc 0)
 have hlen := zol a0 css hc
 rw [znw, hlen] at hfl
 rw [zf8, oneL a0 css 0 [] hc (by omega) (by simp), List.nil_append]
 simp only [Option.bind_some]
 rcases one2 ((tabS 0 css).flatten.map gvn) (by rw [List.length_map]; omega) 900 0 (by rw [List.length_map]; omega) (by omega) with ⟨h1, i, hi, j, hj, h2, h3⟩ | ⟨h1, h2⟩
 have h1 : zax ((tabS 0 css).flatten.map gvn) 900 0 = _ := h1
 rw [h1]
 refine ⟨false, rfl, (fun h => by cases h), fun ho => ?_⟩
 rw [List.length_map] at hi
 simp only [List.getElem_map] at h2 h3
 exact absurd (ho _ (List.getElem_mem hi) _ (List.getElem_mem (by omega)) h2) h3
 have h1 : zax ((tabS 0 css).flatten.map gvn) 900 0 = _ := h1
 rw [h1]
 refine ⟨true, rfl, fun _ e he e' he' hid => ?_, fun _ => rfl⟩
 obtain ⟨i, hi, rfl⟩ := List.getElem_of_mem he
 obtain ⟨j, hj, rfl⟩ := List.getElem_of_mem he'
 have key : ∀ (i j : Nat) (hi : i < (tabS 0 css).flatten.length) (hj : j < i), ((tabS 0 css).flatten[i]).fM.Id = ((tabS 0 css).flatten[j]'(by omega)).fM.Id -> ((tabS 0 css).flatten[i]).fM = ((tabS 0 css).flatten[j]'(by omega)).fM := by
  intro i j hi hj hid
  have := h2 i (by rw [List.length_map]; exact hi) (Nat.zero_le _) j hj
  simp only [List.getElem_map] at this
  exact this hid
 rcases Nat.lt_trichotomy i j with h | h | h
 exact (key j i hj h hid.symm).symm
 subst h; rfl
 exact key i j hi h hid
theorem zu6 (id : Int) : ∀ (l : List TWait), (∃ w ∈ l, w.Message.Id = id /\ zbp id l = some (.inl (w, true))) \/ ((∀ w ∈ l, w.Message.Id ≠ id) /\ zbp id l = some (.inr ()))
 | [] => .inr ⟨by simp, rfl⟩
 | y :: l => by
  rw [zbp]
  by_cases h : y.Message.Id = id
  rw [if_pos h]; exact .inl ⟨y, List.mem_cons_self .., h, rfl⟩
  rw [if_neg h]
  rcases zu6 id l with ⟨w, hw, h1, h2⟩ | ⟨h1, h2⟩
  exact .inl ⟨w, List.mem_cons_of_mem _ hw, h1, h2⟩
  refine .inr ⟨fun w hw => ?_, h2⟩
  rcases List.mem_cons.1 hw with rfl | hw
  exact h
  exact h1 w hw
theorem ya7p {a0 : List (List (List UInt8))} {css : List (List TCommand)} (hc : cssS a0 = some css) (h4 : a0.length <= 4) (g : Int) : ∀ (cs : List TCommand) (s : TSkeen), V s ->
  (zau a0 (zl5 g s cs) = some (.inr ()) /\ zpm (tabS 0 css) g s cs) \/ (zau a0 (zl5 g s cs) = some (.inl false) /\ ¬ zpm (tabS 0 css) g s cs)
 | [], s, _ => .inl ⟨rfl, trivial⟩
 | c :: cs, s, hV => by
  obtain ⟨r, _, hV', _⟩ := zqi (g := g) (c := c) hV
  have ih := ya7p hc h4 g cs (stp g s c).1 hV'
  have go : ya0c (tabS 0 css) s c (stp g s c).1 ->
    (zau a0 (zl5 g (stp g s c).1 cs) = some (.inr ()) /\ zpm (tabS 0 css) g s (c :: cs)) \/ (zau a0 (zl5 g (stp g s c).1 cs) = some (.inl false) /\ ¬ zpm (tabS 0 css) g s (c :: cs)) := by
   intro hs
   rcases ih with ⟨h1, h2⟩ | ⟨h1, h2⟩
   exact .inl ⟨h1, hs, h2⟩
   exact .inr ⟨h1, fun h => h2 h.2⟩
  rw [zl5, zau]
  by_cases k2 : c.Kind = 2
  rw [if_neg (by simpa using k2), zfv]
  simp only
  rcases zu6 c.Id s.Waits with ⟨w, hw, hid, h1⟩ | ⟨hn, h1⟩
  rw [h1]
  simp only [Option.bind_some, not_true_eq_false, false_or]
  have hm := (hV.j.w.1 w hw).1
  by_cases hsk : w.Final = true \/ c.Time < w.Time
  rw [if_neg (fun k => k hsk)]
  simp only [Option.bind_some]
  rw [if_pos (.inl hsk)]
  refine go fun _ hne => ?_
  obtain ⟨w2, hw2, hi2, hf2, ht2⟩ := zqj hV k2 hne
  have : w2 = w := zq5 hV.j.w.2 hw2 hw (hi2.trans hid.symm)
  subst this
  rcases hsk with h | h
  rw [hf2] at h; cases h
  omega
  rw [if_pos hsk, zyq]
  simp only [Option.bind_some, decide_eq_true_eq]
  by_cases hsame : s = (stp g s c).1
  rw [if_pos (.inr hsame)]
  exact go fun _ hne => absurd hsame hne
  rw [if_neg (fun k => k.elim hsk hsame), ya27 hc h4 w.Message fun g hg => (hm.grp.2 g hg).1]
  simp only [Option.bind_some]
  by_cases hf : fT (tabS 0 css) w.Message = (c.Time, true)
  rw [hf, if_neg (by simp)]
  exact go fun _ _ => ⟨w, hw, hid, hf⟩
  rw [if_pos]
  refine .inr ⟨rfl, fun hr => ?_⟩
  obtain ⟨w2, hw2, hi2, hf2⟩ := hr.1 k2 hsame
  have : w2 = w := zq5 hV.j.w.2 hw2 hw (hi2.trans hid.symm)
  subst this
  exact hf hf2
  apply Decidable.byContradiction
  intro hcc
  apply hf
  rw [not_or] at hcc
  exact Prod.ext (Decidable.not_not.1 hcc.2) (Decidable.not_not.1 hcc.1)
  rw [h1]
  simp only [Option.bind_some]
  rw [if_neg (by simp)]
  simp only [Option.bind_some]
  rw [if_pos (by simp)]
  refine go fun _ hne => ?_
  obtain ⟨w2, hw2, hi2, _⟩ := zqj hV k2 hne
  exact absurd hi2 (hn w2 hw2)
  rw [if_pos k2]
  exact go fun hk => absurd hk k2
theorem ya7q {a0 : List (List (List UInt8))} {css : List (List TCommand)} (hc : cssS a0 = some css) (h4 : a0.length <= 4) : ∀ (r : List (List (List UInt8))) (ds : List (List TCommand)) (n : Nat), cssS r = some ds -> n + r.length <= 4 ->
  (zbq a0 r n = some (.inr ()) /\ ∀ (i : Nat) (h : i < ds.length), zpm (tabS 0 css) ((n + i : Nat) : Int) zSk ds[i]) \/ (zbq a0 r n = some (.inl false) /\ ¬ ∀ (i : Nat) (h : i < ds.length), zpm (tabS 0 css) ((n + i : Nat) : Int) zSk ds[i])
 | [], ds, n, h, _ => by simp [cssS] at h; subst h; exact .inl ⟨rfl, by simp⟩
 | l :: r, ds, n, h, hn => by
  simp only [List.length_cons] at hn
  simp only [cssS] at h
  split at h
  rename_i hl
  split at h
  rename_i cs hcs
  obtain ⟨d, hd, rfl⟩ := Option.map_eq_some_iff.1 h
  rw [zbq, zwj (n : Int) ⟨by omega, by omega⟩ l cs hcs hl]
  simp only [Option.bind_some]
  rcases ya7p hc h4 (n : Int) cs zSk zs9 with ⟨h1, h2⟩ | ⟨h1, h2⟩
  rw [h1]
  simp only [Option.bind_some]
  have hsh : (∀ (i : Nat) (h : i < (cs :: d).length), zpm (tabS 0 css) ((n + i : Nat) : Int) zSk (cs :: d)[i]) ↔ ∀ (i : Nat) (h : i < d.length), zpm (tabS 0 css) ((n + 1 + i : Nat) : Int) zSk d[i] := by
   constructor
   intro h i hi
   have := h (i + 1) (by simpa using hi)
   rw [show n + (i + 1) = n + 1 + i by omega] at this
   exact this
   intro h i hi
   cases i with
   | zero => exact h2
   | succ i =>
    rw [show n + (i + 1) = n + 1 + i by omega]
    exact h i (by simpa using hi)
  rw [hsh]
  exact ya7q hc h4 r d (n + 1) hd (by omega)
  rw [h1]
  exact .inr ⟨rfl, fun h => h2 (h 0 (by simp))⟩
  cases h
  cases h
theorem ya19 (a0 : List (List (List UInt8))) : ∃ r, zfh a0 = some r /\ zec a0 = some r := by
 rw [zec]
 rcases ya24 a0 with ⟨e, he, h1, h2⟩ | ⟨h1, css, h4, hc, h2⟩
 rw [h1, zfh, h2]
 simp only [Option.bind_some]
 rw [if_pos he, if_pos he]
 exact ⟨_, rfl, rfl⟩
 rw [h1]
 simp only [Option.bind_some, not_true_eq_false, if_false]
 rcases zzm a0 with ⟨e, he, hn, _⟩ | ⟨css', b, _, hc', _, hh, hb⟩
 rw [hn h4] at hc; cases hc
 rw [hc] at hc'
 cases hc'
 rw [hh, zfw]
 obtain ⟨b1, e1, e2⟩ := ya8c hc h4
 rw [e1]
 simp only [Option.bind_some]
 refine ⟨_, rfl, ?_⟩
 cases hb1 : b1 with
 | false =>
  have : b = false := by
   cases hq : b
   rfl
   rw [hb1] at e2; exact absurd (e2.2 (hb.1 hq).1) (by simp)
  simp [this]
 | true =>
  have hO := e2.1 hb1
  simp only [not_true_eq_false, if_false]
  rcases ya7q hc h4 a0 css 0 hc (by omega) with ⟨h1, h2⟩ | ⟨h1, h2⟩
  rw [h1]
  simp only [Nat.zero_add] at h2
  have : b = true := hb.2 ⟨hO, h2⟩
  rw [this]; rfl
  rw [h1]
  simp only [Nat.zero_add] at h2
  have : b = false := by
   cases hq : b
   rfl
   exact absurd (hb.1 hq).2 h2
  rw [this]; rfl
theorem ya3h (L : List (List (List UInt8))) (i : Nat) (hi : i < L.length) : ∀ (fu k : Nat) (n : Int), 1000 - k < fu -> k <= 1000 -> ∃ r, zbf L (i : Int) fu n (k : Int) = some r := by
 intro fu
 induction fu with
 | zero => intro k n h; omega
 | succ fu ih =>
  intro k n h hk
  rw [zbf, if_pos (by omega)]
  by_cases hc : (k : Int) < ((L.getD (i : Int).toNat default).length : Int) /\ (k : Int) < 1000
  rw [if_pos hc, if_pos (by omega), if_pos (by omega), zpy ((k : Int) + 1) (by omega)]
  exact ih (k + 1) _ (by omega) (by omega)
  rw [if_neg hc]; exact ⟨n, rfl⟩
theorem ya3i (L : List (List (List UInt8))) : ∀ (fu i : Nat) (n : Int), 10 - i < fu -> i <= 10 -> ∃ r, zbg L fu n (i : Int) = some r := by
 intro fu
 induction fu with
 | zero => intro i n h; omega
 | succ fu ih =>
  intro i n h hi
  rw [zbg]
  by_cases hc : (i : Int) < (L.length : Int) /\ (i : Int) < 10
  rw [if_pos hc, zpy ((i : Int) + 1) (by omega)]
  obtain ⟨r, hr⟩ := ya3h L i (by omega) 1002 0 n (by omega) (by omega)
  have hr : zbf L (i : Int) 1002 n 0 = some r := hr
  rw [hr]
  simp only [Option.bind_some]
  exact ih (i + 1) _ (by omega) (by omega)
  rw [if_neg hc]; exact ⟨n, rfl⟩
theorem ya7m (L : List (List (List UInt8))) : ∃ b, zem L = some b := by
 obtain ⟨r, hr⟩ := ya3i L 12 0 0 (by omega) (by omega)
 have hr : zbg L 12 0 0 = some r := hr
 rw [zem, hr]
 exact ⟨_, rfl⟩
theorem ya1p (a0 : List (List (List UInt8))) (a1 : TMessage) (a2 a3 : List TStamp) : zek a0 a1 a2 a3 = some true := by
 obtain ⟨gb, hgb⟩ := ya7m a0
 rw [zek, hgb]
 simp only [Option.bind_some]
 split
 rfl
 rename_i h
 obtain ⟨r1, e1, e2⟩ := ya3l a0 a1
 obtain ⟨r2, e3, e4⟩ := ya19 a0
 obtain ⟨r3, e5, e6⟩ := ya3x a2 a3 (by omega) (by omega)
 rw [e1, e2, e3, e4, e5, e6]
 simp
end Go.Proofs
end
section
namespace Go.Tm
open Go.RowKit Go.WideShapes Go.ChangeShapes
def aggT (P : Program) (t : TypeId) : Bool := match P.underlying t with
 | some (.struct _) => true
 | _ => false
def mkD (P : Program) (t : TypeId) (l : List D) : D := bif aggT P t then .agg l else l.headD .undef
def zm1 (P : Program) (chk : TypeId -> Bool) : Nat -> List Field -> Nat -> Bool
 | off, [], tot => Nat.beq off tot
 | off, f :: fs, tot => Nat.beq f.offset off && chk f.type && zm1 P chk (off + P.cellsOf f.type) fs tot
def zrw (P : Program) : Nat -> TypeId -> Bool
 | 0, _ => false
 | n + 1, t => match P.underlying t with
  | some .bool => true
  | some (.int _) => true
  | some .string => true
  | some (.slice e) => zrw P n e && Nat.blt 0 (P.cellsOf e) && (aggT P e || Nat.beq (P.cellsOf e) 1)
  | some (.struct fs) => zm1 P (zrw P n) 0 fs.toList (P.cellsOf t)
  | _ => false
def zqf (p : TypeId -> List D -> Prop) : List TypeId -> List D -> Prop
 | [], l => l = []
 | t :: ts, l => ∃ l1 l2, l = l1 ++ l2 /\ p t l1 /\ zqf p ts l2
def zho (P : Program) : Nat -> TypeId -> List D -> Prop
 | 0, _, _ => False
 | n + 1, t, l => match P.underlying t with
  | some .bool => ∃ b, l = [.bool b]
  | some (.int k) => ∃ m, l = [.int k m]
  | some .string => ∃ s, l = [.str s]
  | some (.slice e) => ∃ xs : List (List D), l = [.imm (P.cellsOf e) (xs.map (mkD P e)) 4] /\ ∀ x ∈ xs, zho P n e x
  | some (.struct fs) => zqf (zho P n) (fs.toList.map (·.type)) l
  | _ => False
theorem zpt {C : Cx} : ∀ {l1 l2 : List D} {v1 v2 : List Value}, reps C l1 v1 -> reps C l2 v2 -> reps C (l1 ++ l2) (v1 ++ v2)
 | [], l2, v1, v2, h1, h2 => by simp only [reps] at h1; subst h1; simpa using h2
 | d :: ds, l2, v1, v2, h1, h2 => by
  simp only [reps] at h1
  obtain ⟨v, vs, rfl, hd, h1⟩ := h1
  simp only [List.cons_append, reps]
  exact ⟨v, vs ++ v2, rfl, hd, zpt h1 h2⟩
theorem zx9 {C : Cx} {b s : Nat} {p : List D -> Prop} {f : List D -> D} : ∀ (n o : Nat), (∀ i, i < n -> ∃ l v, p l /\ rep C (f l) v /\ v.cells.size = s /\ v.cells.toList.all (·.oneCell') = true /\ C.w.rangeAt b (o + i * s) v.cells.toList) ->
  ∃ xs : List (List D), xs.length = n /\ elems C (xs.map f) b o s /\ ∀ x ∈ xs, p x
 | 0, o, _ => ⟨[], rfl, by simp only [List.map_nil, elems], by simp⟩
 | n + 1, o, h => by
  obtain ⟨l, v, h1, h2, h3, h4, h5⟩ := h 0 (by omega)
  obtain ⟨xs, g1, g2, g3⟩ := zx9 n (o + s) (fun i hi => by
   obtain ⟨l, v, h1, h2, h3, h4, h5⟩ := h (i + 1) (by omega)
   exact ⟨l, v, h1, h2, h3, h4, by rwa [show o + (i + 1) * s = o + s + i * s by rw [Nat.add_mul]; omega] at h5⟩)
  refine ⟨l :: xs, by simp [g1], ?_, by simpa using ⟨h1, g3⟩⟩
  simp only [List.map_cons, elems]
  exact ⟨⟨v, h2, h3, h4, by simpa using h5⟩, g2⟩
theorem zrq {P : Program} {chk : TypeId -> Bool} : ∀ (fs : List Field) (off tot : Nat), zm1 P chk off fs tot = true -> off <= tot
 | [], off, tot, h => Nat.le_of_eq (nb h)
 | f :: fs, off, tot, h => by
  simp only [zm1, Bool.and_eq_true] at h
  have := zrq fs _ _ h.2
  omega
section
variable {H : Type} {enc : TypeId × Value -> H} {P : Program} {w : World} {sp : Nat -> Bool}
theorem zqg : ∀ (n fuel : Nat) (t : TypeId) (cs : List Value) (x : DataW H × List MemPlace) (C : Cx), C.w = w -> (∀ b, ¬ C.M b) -> (∀ b, C.Z b) -> zrw P n t = true -> DataW.trod enc P w 0 sp true fuel t cs = some x ->
  ∃ l, reps C l cs /\ zho P n t l /\ cs.all (·.oneCell') = true
 | 0, _, _, _, _, _, _, _, _, h, _ => by simp [zrw] at h
 | n + 1, fuel, t, cs, x, C, hw, hM, hlo, hd, h => by
  unfold zrw at hd
  split at hd
  rename_i ht
  simp only [zho, ht]
  obtain ⟨b, rfl, _⟩ := DataW.trod_bool ht h
  exact ⟨[.bool b], by simp only [reps, rep]; exact ⟨_, _, rfl, rfl, rfl⟩, ⟨b, rfl⟩, rfl⟩
  rename_i k ht
  simp only [zho, ht]
  obtain ⟨m, rfl, _, hwf⟩ := DataW.trod_int ht h
  simp only [Lit.wf, Bool.and_eq_true, decide_eq_true_eq] at hwf
  exact ⟨[.int k m], by simp only [reps, rep]; exact ⟨_, _, rfl, ⟨rfl, hwf⟩, rfl⟩, ⟨m, rfl⟩, rfl⟩
  rename_i ht
  simp only [zho, ht]
  obtain ⟨s, rfl, _, hs⟩ := DataW.trod_string ht h
  refine ⟨[.str s.data.toList], ?_, ⟨_, rfl⟩, rfl⟩
  simp only [reps, rep]
  refine ⟨_, _, rfl, ⟨by rw [Array.toArray_toList], ?_⟩, rfl⟩
  have h1 : s.data.toList.length = s.size := by rw [Array.length_toList]; rfl
  have h2 : s.size <= 9223372036854775807 := hs
  rw [h1]; omega
  ·rename_i e ht
   simp only [zho, ht]
   simp only [Bool.and_eq_true, Bool.or_eq_true] at hd
   obtain ⟨⟨hde, hpos⟩, hone⟩ := hd
   have hpos : 0 < P.cellsOf e := lb hpos
   rcases DataW.trod_slice ht h with ⟨rfl, _⟩ | ⟨a, len, cap, els, rest, m, _, rfl, _, hb, hl, hc, hlen, hel, _⟩
   refine ⟨[.imm (P.cellsOf e) (([] : List (List D)).map (mkD P e)) 4], ?_, ⟨[], rfl, fun _ h => by cases h⟩, rfl⟩
   simp only [reps, rep, List.map_nil, List.length_nil]
   exact ⟨_, _, rfl, ⟨none, 0, rfl, by simp, by simp, by simp, by simp, by simp, by simp, by simp, .inl trivial⟩, rfl⟩
   ·have hc : cap <= 9223372036854775807 := hc
    have key : ∀ i, i < len -> ∃ l v, zho P n e l /\ rep (C.at C.Z) (mkD P e l) v /\ v.cells.size = P.cellsOf e /\ v.cells.toList.all (·.oneCell') = true /\ (i = 0 -> a.spot = none) /\ a.block < w.heap.size /\ w.rangeAt a.block (a.off + i * P.cellsOf e) v.cells.toList := by
     intro i hi
     have hi' := hel i hi
     have hsome : els[i]? = some els[i] := List.getElem?_eq_getElem (by omega)
     rw [hsome, Option.bind_eq_some_iff] at hi'
     obtain ⟨cs', hcs, htr⟩ := hi'
     obtain ⟨_, hclen, hcell⟩ := World.cells?_some hcs
     obtain ⟨l, g1, g2, g3⟩ := zqg n m e cs' _ (C.at C.Z) (by simpa [Cx.at] using hw) (by simpa [Cx.at] using hM) (by simpa [Cx.at] using hlo) hde htr
     have h0 := hcell 0 hpos
     have hc0 : cs'[0]? = some cs'[0] := List.getElem?_eq_getElem (by omega)
     rw [hc0] at h0
     have hadd : ∀ j, ((a.add (i * P.cellsOf e)).add j).block = a.block := by intro j; unfold Addr.add; split <;> split <;> rfl
     have hblk : a.block < w.heap.size /\ ((a.add (i * P.cellsOf e)).add 0).spot = none := by
      unfold World.cell? at h0
      rw [hadd] at h0
      split at h0
      rename_i c T fz hh
      have := (Array.getElem?_eq_some_iff.1 hh).1
      split at h0
      cases h0
      rename_i hs; exact ⟨this, by simpa using hs⟩
      cases h0
     have hspot0 : (a.add (i * P.cellsOf e)).spot = none := by simpa [Addr.add] using hblk.2
     have hae : ∀ j, j < P.cellsOf e -> (a.add (i * P.cellsOf e)).add j = ⟨a.block, a.off + i * P.cellsOf e + j, none⟩ := by
      intro j _
      unfold Addr.add at hspot0 ⊢
      split at hspot0
      ·rename_i hz
       simp only [hz, if_true, Nat.add_zero]
       split
       ·rename_i hj; subst hj; cases a; simp_all
       rfl
      rename_i hz
      simp only [hz, if_false]
      split
      rename_i hj; subst hj; rfl
      rfl
     have hrange : w.rangeAt a.block (a.off + i * P.cellsOf e) cs' := by
      intro j v hj
      have hjl := (List.getElem?_eq_some_iff.1 hj).1
      have := hcell j (by omega)
      rw [hae j (by omega), hj] at this
      exact this
     cases hag : aggT P e with
     | true =>
      refine ⟨l, .agg cs'.toArray, g2, ?_, by simp [Value.cells, hclen], by simpa [Value.cells] using g3, ?_, hblk.1, by simpa [Value.cells] using hrange⟩
      simp only [mkD, hag, cond_true, rep]
      exact ⟨cs', rfl, g1⟩
      rintro rfl; simpa [Addr.add] using hspot0
     | false =>
      rw [hag] at hone
      have h1 : P.cellsOf e = 1 := by simpa using hone
      rw [h1] at hclen
      obtain ⟨v, rfl⟩ := List.length_eq_one_iff.1 hclen
      obtain ⟨d, rfl⟩ : ∃ d, l = [d] := List.length_eq_one_iff.1 ((zes _ _ g1).symm.trans rfl)
      simp only [reps] at g1
      obtain ⟨v', vs', hv, hd, rfl⟩ := g1
      obtain rfl : v = v' := (List.cons.inj hv).1
      have hcv : v.cells = #[v] := by
       simp only [List.all_cons, List.all_nil, Bool.and_true] at g3
       cases v <;> first | rfl | simp [Value.oneCell'] at g3
      refine ⟨[d], v, g2, by simpa [mkD, hag] using hd, by simp [hcv, h1], by simpa [hcv] using g3, ?_, hblk.1, by simpa [hcv] using hrange⟩
      rintro rfl; simpa [Addr.add] using hspot0
    obtain ⟨xs, g1, g2, g3⟩ := zx9 (C := C.at C.Z) (b := a.block) (s := P.cellsOf e) (p := zho P n e) (f := mkD P e) len a.off (fun i hi => by
     obtain ⟨l, v, h1, h2, h3, h4, _, _, h5⟩ := key i hi
     exact ⟨l, v, h1, h2, h3, h4, by subst hw; exact h5⟩)
    refine ⟨[.imm (P.cellsOf e) (xs.map (mkD P e)) 4], ?_, ⟨xs, rfl, g3⟩, rfl⟩
    simp only [reps, rep, List.length_map, g1]
    refine ⟨_, _, rfl, ⟨some a, cap, rfl, hl, by omega, by simp, by simp, by simp, by simp, by simp, ?_⟩, rfl⟩
    rcases Nat.eq_zero_or_pos len with h0 | h0
    left; subst h0; have := List.length_eq_zero_iff.1 g1; simp [this]
    right
    obtain ⟨_, _, _, _, _, _, k1, k2, _⟩ := key 0 h0
    intro Z hZ
    have hZ : C.Z = Z := by simpa [Cx.zone] using hZ
    subst hZ
    exact ⟨a, rfl, k1 rfl, hM _, hlo _, by rw [hw]; exact k2, g2⟩
  rename_i fs ht
  simp only [zho, ht]
  obtain ⟨xs, m, _, _, hcl, hxl, hf⟩ := DataW.trod_struct ht h
  have key : ∀ (gs : List Field) (k : Nat), (∀ i f, gs[i]? = some f -> fs[k + i]? = some f) -> ∀ off, zm1 P (zrw P n) off gs (P.cellsOf t) = true -> off <= cs.length -> 
    ∃ l, reps C l (cs.drop off) /\ zqf (zho P n) (gs.map (·.type)) l /\ (cs.drop off).all (·.oneCell') = true := by
   intro gs
   induction gs with
   | nil =>
    intro k _ off ho _
    simp only [zm1] at ho
    have ho := nb ho
    have : cs.drop off = [] := by rw [ho, <- hcl]; simp
    rw [this]
    exact ⟨[], by simp only [reps], rfl, rfl⟩
   | cons f gs ih =>
    intro k hk off ho hle
    simp only [zm1, Bool.and_eq_true] at ho
    obtain ⟨⟨h1, h2⟩, h3⟩ := ho
    have h1 := nb h1
    have hfk := hf k f (by simpa using hk 0 f rfl)
    have hkl : k < xs.length := by
     have := hk 0 f rfl
     rw [hxl]
     exact (Array.getElem?_eq_some_iff.1 (by simpa using this)).1
    rw [List.getElem?_eq_getElem hkl, h1] at hfk
    obtain ⟨l1, g1, g2, g3⟩ := zqg n m f.type _ _ C hw hM hlo h2 hfk
    have hl1 : ((cs.drop off).take (P.cellsOf f.type)).length = P.cellsOf f.type := by
     have := zrq _ _ _ h3
     simp
     omega
    obtain ⟨l2, k1, k2, k3⟩ := ih (k + 1) (fun i f' hi => by have := hk (i + 1) f' (by simpa using hi); rwa [show k + (i + 1) = k + 1 + i by omega] at this) (off + P.cellsOf f.type) h3 (by
     simp at hl1; omega)
    have e : cs.drop off = (cs.drop off).take (P.cellsOf f.type) ++ cs.drop (off + P.cellsOf f.type) := by
     rw [<- List.drop_drop, List.take_append_drop]
    refine ⟨l1 ++ l2, by rw [e]; exact zpt g1 k1, ⟨l1, l2, rfl, g2, k2⟩, by rw [e, List.all_append, g3, k3]; rfl⟩
  simpa using key fs.toList 0 (fun i f hi => by simpa using hi) 0 hd (Nat.zero_le _)
  cases hd
theorem ya0f {r : Reach} {b0 n : Nat} {t : TypeId} {v : Value} {d : DataW H} {ps : List MemPlace} {fr : Nat} (hd : zrw P n t = true) (hval : Value.okWide P w r b0 t v) (h : DataW.Trod enc P w 0 sp true t v d ps) :
  ∃ l, zho P n t l /\ rep (cx0 w fr) (mkD P t l) v := by
 obtain ⟨fuel, h⟩ := h
 obtain ⟨l, h1, h2, h3⟩ := zqg n fuel t _ _ (cx0 w fr) rfl (fun _ h => h) (fun _ => trivial) hd h
 refine ⟨l, h2, ?_⟩
 unfold mkD aggT
 cases n with
 | zero => simp [zrw] at hd
 | succ n =>
  unfold zrw at hd
  unfold Value.okWide at hval
  split at hd
  case h_5 fs ht =>
   rw [ht] at hval ⊢
   obtain ⟨cs, rfl, _⟩ := hval
   simp only [cond_true, rep]
   exact ⟨cs.toList, by simp, by simpa [Value.cells] using h1⟩
  case h_6 => cases hd
  all_goals
   rename_i ht
   rw [ht] at hval ⊢
   simp only [cond_false]
   have hcv : v.cells = #[v] := by
    cases v with
    | agg cs => simp [Cell.okWide, Cell.ok, ht] at hval
    | _ => rfl
   rw [hcv] at h1
   have hl : ∃ d, l = [d] := List.length_eq_one_iff.1 ((zes _ _ h1).symm.trans rfl)
   obtain ⟨d, rfl⟩ := hl
   simp only [reps] at h1
   obtain ⟨v', vs', hv, hd', _⟩ := h1
   obtain rfl : v = v' := by simpa using (List.cons.inj hv).1
   exact hd'
def zlq (P : Program) (n : Nat) : List TypeId -> List D -> Prop
 | [], l => l = []
 | t :: ts, l => ∃ c r, l = mkD P t c :: r /\ zho P n t c /\ zlq P n ts r
theorem zpp {r : Reach} {b0 n fr : Nat} : ∀ {ts : List TypeId} {vs : List Value} {ds : List (DataW H)} {ps : List MemPlace}, ts.all (zrw P n) = true -> (∀ (j : Nat) t v, ts[j]? = some t -> vs[j]? = some v -> Value.okWide P w r b0 t v) ->
  DataW.TrodAll enc P w 0 sp true ts vs ds ps -> ∃ l, zlq P n ts l /\ reps (cx0 w fr) l vs
 | [], [], [], _, _, _, _ => ⟨[], rfl, by simp only [reps]⟩
 | t :: ts, v :: vs, d :: ds, ps, hd, hval, h => by
  obtain ⟨p, q, h1, h2, _⟩ := h
  simp only [List.all_cons, Bool.and_eq_true] at hd
  obtain ⟨c, g1, g2⟩ := ya0f (fr := fr) hd.1 (hval 0 t v rfl rfl) h1
  obtain ⟨l, k1, k2⟩ := zpp hd.2 (fun j t v h h' => hval (j + 1) t v h h') h2
  exact ⟨_ :: l, ⟨c, l, rfl, g1, k1⟩, by simp only [reps]; exact ⟨_, _, rfl, g2, k2⟩⟩
 | [], _ :: _, _, _, _, _, h => h.elim
 | [], [], _ :: _, _, _, _, h => h.elim
 | _ :: _, [], _, _, _, _, h => h.elim
 | _ :: _, _ :: _, [], _, _, _, h => h.elim
theorem znv (hl : laidOutB P = true) {W W' : World} (hB : Below W.heap.size W W') {sp' : Nat -> Bool} : ∀ {ts : List TypeId} {vs : List Value} {ds : List (DataW H)} {ps : List MemPlace}, (ts.all fun t => P.readableRec t && Nat.blt t P.types.size) = true ->
  DataW.TrodAll enc P W 0 (fun _ => true) true ts vs ds ps -> (∀ p ∈ ps, p.block < W.heap.size /\ sp' p.block = true) -> DataW.TrodAll enc P W' 0 sp' true ts vs ds ps
 | [], [], [], _, _, h, _ => h
 | t :: ts, v :: vs, d :: ds, ps, hr, h, hp => by
  obtain ⟨p, q, h1, h2, rfl⟩ := h
  simp only [List.all_cons, Bool.and_eq_true] at hr
  refine ⟨p, q, WideElems.Trod_stays hl hr.1.1 (lb hr.1.2) h1 (fun x hx => hB.same (hp x (by simp [hx])).1) (fun x hx => (hp x (by simp [hx])).2), ?_, rfl⟩
  exact znv hl hB hr.2 h2 fun x hx => hp x (by simp [hx])
 | [], _ :: _, _, _, _, h, _ => h.elim
 | [], [], _ :: _, _, _, h, _ => h.elim
 | _ :: _, [], _, _, _, h, _ => h.elim
 | _ :: _, _ :: _, [], _, _, h, _ => h.elim
theorem zuq {K : FuncId} {f : Func} {s : ChangeSpec} {apart fresh : Bool} {n : Nat} {tb : TypeId} (hl : laidOutB P = true) (hr : (f.params.toList.all fun t => P.readableRec t && Nat.blt t P.types.size) = true)
  (hd : f.params.toList.all (zrw P n) = true) (hvars : s.vars = []) (hres : f.resultTypes = #[tb]) (hb : P.underlying tb = some .bool)
  (hfn : ∀ ds : List (DataW H), ds.length = f.params.size -> s.fn H ds = { results := [.lit (.bool true)], args := ds })
  (hK : ∀ l, zlq P n f.params.toList l -> zbn P K l (.bool true)) {W : World} {base : Nat} {args : Array Value} {ds gs : List (DataW H)} {before : List MemPlace}
  (hval : ∀ (j : Nat) t v, f.params[j]? = some t -> args[j]? = some v -> Value.okWide P W .any base t v) (hW : DataW.Whole enc P f.params.toList s.vars apart W args.toList ds gs before) :
  Calls P K args W fun e W' => ∃ v, e = .returned v /\ s.post enc P f apart fresh false false W args v W' := by
 have hW' := hW
 obtain ⟨p, q, hA, hV, rfl, hfz, hnd⟩ := hW
 rw [hvars] at hV
 have hlen : ds.length = f.params.size := by
  have : ∀ {ts : List TypeId} {vs : List Value} {ds : List (DataW H)} {ps : List MemPlace}, DataW.TrodAll enc P W 0 (fun _ => true) true ts vs ds ps -> ds.length = ts.length := by
   intro ts
   induction ts with
   | nil => intro vs ds ps h; cases vs <;> cases ds <;> first | rfl | exact h.elim
   | cons t ts ih => intro vs ds ps h; cases vs <;> cases ds <;> first | (obtain ⟨_, _, _, h2, _⟩ := h; simp [ih h2]) | exact h.elim
  simpa using this hA
 have hgs : gs = [] /\ q = [] := by
  cases gs with
  | nil => exact ⟨rfl, hV⟩
  | cons g gs => exact hV.elim
 obtain ⟨rfl, rfl⟩ := hgs
 obtain ⟨l, h1, h2⟩ := zpp (fr := W.heap.size) hd (fun j t v h h' => hval j t v (by simpa using h) (by simpa using h')) hA
 refine ((hK l h1).2 W _ h2).mono fun e W' ⟨v, he, hk, _, hv⟩ => ⟨v, he, ?_⟩
 simp only [rep] at hv
 subst hv
 have hB := hk.below
 have hlt := hW'.lt
 have hf := hfn ds hlen
 refine ⟨ds, [], p ++ [], [], p, [], hW', ?_, ?_, ?_, ?_, fun h => by cases h⟩
 rw [List.append_nil, hf, hres]
 exact ⟨[], [], ⟨1, by simp [DataW.trod, Value.cells, hb]⟩, rfl, rfl⟩
 rw [List.append_nil, hf]
 exact znv hl hB hr hA fun x hx => ⟨hlt x (by simp [hx]), by simpa using hlt x (by simp [hx])⟩
 rw [List.append_nil, hf, hvars]
 rfl
 exact hB.frame _
end
theorem zzg {α : Type} {f : α -> D} {g : List D -> D} : ∀ (xs : List (List D)), (∀ x ∈ xs, ∃ y, g x = f y) -> ∃ l : List α, xs.map g = l.map f
 | [], _ => ⟨[], rfl⟩
 | x :: xs, h => by
  obtain ⟨y, hy⟩ := h x (by simp)
  obtain ⟨l, hl⟩ := zzg xs fun x hx => h x (by simp [hx])
  exact ⟨y :: l, by simp only [List.map_cons, hy, hl]⟩
section
variable {P : Program} {n : Nat} {t : TypeId} {l : List D}
theorem zkt {d : D} (ha : aggT P t = false) : mkD P t [d] = d := by simp only [mkD, ha, cond_false, List.headD_cons]
theorem zzb (ha : aggT P t = true) : mkD P t l = .agg l := by simp only [mkD, ha, cond_true]
theorem zmh {k : IntKind} (hu : P.underlying t = some (.int k)) (h : zho P (n + 1) t l) : ∃ m, l = [.int k m] := by
 rw [zho, hu] at h; exact h
theorem zqe (hu : P.underlying t = some .string) (h : zho P (n + 1) t l) : ∃ s, l = [.str s] := by
 rw [zho, hu] at h; exact h
theorem zmz {α : Type} (f : α -> D) {e : TypeId} {s : Nat} (hu : P.underlying t = some (.slice e)) (ha : aggT P t = false) (hc : P.cellsOf e = s) (hx : ∀ x, zho P n e x -> ∃ y, mkD P e x = f y) (h : zho P (n + 1) t l) :
  ∃ m : List α, mkD P t l = .imm s (m.map f) 4 := by
 rw [zho, hu] at h
 obtain ⟨xs, rfl, hxs⟩ := h
 obtain ⟨m, hm⟩ := zzg (f := f) (g := mkD P e) xs fun x hx' => hx x (hxs x hx')
 exact ⟨m, by rw [zkt ha, hm, hc]⟩
theorem znu {e : TypeId} (hu : P.underlying t = some (.slice e)) (h : zho P (n + 1) t l) : ∃ d, l = [d] := by
 rw [zho, hu] at h
 obtain ⟨xs, rfl, _⟩ := h
 exact ⟨_, rfl⟩
theorem zpo {fs : Array Field} (hu : P.underlying t = some (.struct fs)) (h : zho P (n + 1) t l) : zqf (zho P n) (fs.toList.map (·.type)) l := by
 rw [zho, hu] at h; exact h
theorem zhz {p : TypeId -> List D -> Prop} {ts : List TypeId} (h : zqf p (t :: ts) l) : ∃ l1 l2, l = l1 ++ l2 /\ p t l1 /\ zqf p ts l2 := h
theorem zsj {p : TypeId -> List D -> Prop} (h : zqf p [] l) : l = [] := h
theorem zjg {ts : List TypeId} (h : zlq P n (t :: ts) l) : ∃ c r, l = mkD P t c :: r /\ zho P n t c /\ zlq P n ts r := h
theorem zu7 (h : zlq P n [] l) : l = [] := h
end
end Go.Tm
end
section
namespace Go.Proofs.YtkananhhhkkpkaaGreat.orderAsks
open Go.ChangeShapes Go.WideShapes Go.RowKit Go.Tm
set_option maxRecDepth 100000
theorem own : ownKnob Tryz.prog.godebug = none := by kernel_rfl
theorem ya3z : aggT Tryz.prog 24 = false := by kernel_rfl
theorem ya40 : aggT Tryz.prog 22 = false := by kernel_rfl
theorem agg9 : aggT Tryz.prog 9 = false := by kernel_rfl
theorem ya7x : Tryz.prog.cellsOf 9 = 1 := by kernel_rfl
theorem tc22 {n : Nat} {l : List D} (h : zho Tryz.prog (n + 2) 22 l) : ∃ m : List (List UInt8), l = [.imm 1 (m.map D.str) 4] := by
 obtain ⟨d, hd⟩ := znu Tryz.underlying22 h
 obtain ⟨m, hm⟩ := zmz D.str Tryz.underlying22 ya40 ya7x (fun x hx => by
  obtain ⟨a, ha⟩ := zqe Tryz.underlying9 hx
  exact ⟨a, ha ▸ zkt agg9⟩) h
 rw [hd, zkt ya40] at hm
 exact ⟨m, by rw [hd, hm]⟩
theorem ya3v : Tryz.prog.cellsOf 22 = 1 := by kernel_rfl
theorem tc24 {n : Nat} {l : List D} (h : zho Tryz.prog (n + 3) 24 l) : ∃ m : List (List (List UInt8)), l = [.imm 1 (m.map zdn) 4] := by
 obtain ⟨d, hd⟩ := znu Tryz.underlying24 h
 obtain ⟨m, hm⟩ := zmz zdn Tryz.underlying24 ya3z ya3v (fun x hx => by
  obtain ⟨a, ha⟩ := tc22 (n := n) hx
  exact ⟨a, ha ▸ zkt ya40⟩) h
 rw [hd, zkt ya3z] at hm
 exact ⟨m, by rw [hd, hm]⟩
theorem ya8k : aggT Tryz.prog 46 = true := by kernel_rfl
theorem ya80 : aggT Tryz.prog 44 = false := by kernel_rfl
theorem agg3 : aggT Tryz.prog 3 = false := by kernel_rfl
theorem ya7y : Tryz.prog.cellsOf 3 = 1 := by kernel_rfl
theorem tc44 {n : Nat} {l : List D} (h : zho Tryz.prog (n + 2) 44 l) : ∃ m : List Int, l = [.imm 1 (m.map (D.int .i64)) 4] := by
 obtain ⟨d, hd⟩ := znu Tryz.underlying44 h
 obtain ⟨m, hm⟩ := zmz (D.int .i64) Tryz.underlying44 ya80 ya7y (fun x hx => by
  obtain ⟨a, ha⟩ := zmh Tryz.underlying3 hx
  exact ⟨a, ha ▸ zkt agg3⟩) h
 rw [hd, zkt ya80] at hm
 exact ⟨m, by rw [hd, hm]⟩
theorem tc46 {n : Nat} {l : List D} (h : zho Tryz.prog (n + 3) 46 l) : ∃ x : TMessage, l = [.int .i64 x.Id, .imm 1 (x.Groups.map (D.int .i64)) 4, .int .i64 x.Topic, .str x.Key, .str x.Body] := by
 replace h := zpo Tryz.underlying46 h
 obtain ⟨l0, r0, e0, h0, h⟩ := zhz h
 obtain ⟨l1, r1, e1, h1, h⟩ := zhz h
 obtain ⟨l2, r2, e2, h2, h⟩ := zhz h
 obtain ⟨l3, r3, e3, h3, h⟩ := zhz h
 obtain ⟨l4, r4, e4, h4, h⟩ := zhz h
 have ez := zsj h
 obtain ⟨a0, f0⟩ := zmh Tryz.underlying3 h0
 obtain ⟨a1, f1⟩ := tc44 (n := n + 0) h1
 obtain ⟨a2, f2⟩ := zmh Tryz.underlying3 h2
 obtain ⟨a3, f3⟩ := zqe Tryz.underlying9 h3
 obtain ⟨a4, f4⟩ := zqe Tryz.underlying9 h4
 refine ⟨⟨a0, a1, a2, a3, a4⟩, ?_⟩
 rw [e0, e1, e2, e3, e4, ez, f0, f1, f2, f3, f4]
 exact rfl
theorem ya3y : aggT Tryz.prog 26 = false := by kernel_rfl
theorem ya8j : aggT Tryz.prog 72 = true := by kernel_rfl
theorem tc72 {n : Nat} {l : List D} (h : zho Tryz.prog (n + 2) 72 l) : ∃ x : TStamp, l = [.int .i64 x.Time, .int .i64 x.Id] := by
 replace h := zpo Tryz.underlying72 h
 obtain ⟨l0, r0, e0, h0, h⟩ := zhz h
 obtain ⟨l1, r1, e1, h1, h⟩ := zhz h
 have ez := zsj h
 obtain ⟨a0, f0⟩ := zmh Tryz.underlying3 h0
 obtain ⟨a1, f1⟩ := zmh Tryz.underlying3 h1
 refine ⟨⟨a0, a1⟩, ?_⟩
 rw [e0, e1, ez, f0, f1]
 exact rfl
theorem ya3u : Tryz.prog.cellsOf 72 = 2 := by kernel_rfl
theorem tc26 {n : Nat} {l : List D} (h : zho Tryz.prog (n + 3) 26 l) : ∃ m : List TStamp, l = [.imm 2 (m.map TStamp.d) 4] := by
 obtain ⟨d, hd⟩ := znu Tryz.underlying26 h
 obtain ⟨m, hm⟩ := zmz TStamp.d Tryz.underlying26 ya3y ya3u (fun x hx => by
  obtain ⟨a, ha⟩ := tc72 (n := n) hx
  exact ⟨a, (zzb ya8j).trans (by rw [ha]; rfl)⟩) h
 rw [hd, zkt ya3y] at hm
 exact ⟨m, by rw [hd, hm]⟩
theorem ya34 : Tryz.f4.params.toList = [24, 46, 26, 26] := by kernel_rfl
theorem hK (l : List D) (h : zlq Tryz.prog 8 Tryz.f4.params.toList l) : zbn Tryz.prog 4 l (.bool true) := by
 rw [ya34] at h
 obtain ⟨c0, r0, e0, h0, h⟩ := zjg h
 obtain ⟨c1, r1, e1, h1, h⟩ := zjg h
 obtain ⟨c2, r2, e2, h2, h⟩ := zjg h
 obtain ⟨c3, r3, e3, h3, h⟩ := zjg h
 have ez := zu7 h
 obtain ⟨a0, f0⟩ := tc24 (n := 5) h0
 obtain ⟨a1, f1⟩ := tc46 (n := 5) h1
 obtain ⟨a2, f2⟩ := tc26 (n := 5) h2
 obtain ⟨a3, f3⟩ := tc26 (n := 5) h3
 rw [e0, e1, e2, e3, ez, f0, f1, f2, f3, zkt ya3z, zzb ya8k, zkt ya3y]
 exact zj3 a0 a1 a2 a3 _ (ya1p a0 a1 a2 a3)
set_option maxRecDepth 100000 in
theorem lifted (os : Os) (started : os.Started) (H : Type) (enc : TypeId × Value -> H) :
  ReturnsInHanded {} Tryz.checked os 4 .any (Rows.orderAsksSpec.pre6 enc Tryz.prog Tryz.f4 Rows.orderAsksRow.domain false) (Rows.orderAsksSpec.post enc Tryz.prog Tryz.f4 false true false false) := by
 refine returnsInHanded_of_change (C := Tryz.checked) own started (by kernel_rfl) Tryz.func4
  (ChangeSpec.witness6 (enc := enc) (C := Tryz.checked) false ⟨#[], #[.slice none 0 0, .agg #[.int .i64 0, .slice none 0 0, .int .i64 0, .string ⟨#[]⟩, .string ⟨#[]⟩], .slice none 0 0, .slice none 0 0], []⟩ 8 (by kernel_rfl) (by kernel_rfl) (by kernel_rfl) (by kernel_rfl)) ?_
 intro W base args ds gs before hval hW _ _
 exact zuq (K := 4) (n := 8) (tb := 4) (by kernel_rfl) (by kernel_rfl) (by kernel_rfl) rfl rfl Tryz.underlying4 (fun ds h => by
  match ds, h with
  | [_, _, _, _], _ => rfl) hK hval hW
end Go.Proofs.YtkananhhhkkpkaaGreat.orderAsks
end
