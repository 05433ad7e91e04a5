/- Texts of the proof. -/
import Derived.WideKeyArgs
import Derived.ChangeSame
import Derived.ChangeArms
import Derived.OpenShut
import Derived.Carry
import Derived.SizedLaws
import Derived.Test.YtdoegejmepcmpaaRows
import Derived.WalkKit
import Derived.ProofKit
import Derived.Test.YtdoegejmepcmpaaSkeenDoesPl
import Derived.Test.YtdoegejmepcmpaaSkeenDoesPj
import Derived.Test.YtdoegejmepcmpaaSkeenDoesPe
section
namespace Go.Proofs
open Go.Tm
set_option linter.unusedSimpArgs false
set_option linter.unusedVariables false
theorem wr_i {n : Int} (h1 : -9223372036854775808 ≤ n) (h2 : n ≤ 9223372036854775807) : wr .i64 n = n := wr_eq _ _ (by show (-9223372036854775808 : Int) ≤ _; omega) (by show _ ≤ (9223372036854775807 : Int); omega)
theorem J.del {c : Int} {W : List TWait} {D : List TStamp} (hj : J c W D) {y : TWait} {l : List TWait} (hW : W = y :: l) : ∃ (K : Nat) (hk : K < W.length), plc (minW y l).Message.Id W = K ∧ W[K] = minW y l ∧ J c (W.eraseIdx K) (D ++ [stW (minW y l)]) := by
 have hmem : minW y l ∈ W := by
  rw [hW]
  rcases minW_mem l y with hh | hh
  ·rw [hh]; simp
  ·exact List.mem_cons_of_mem _ hh
 obtain ⟨hk, he⟩ := (plc_at (minW y l).Message.Id W hj.w.2).1 ⟨_, hmem, rfl⟩
 generalize hK : plc (minW y l).Message.Id W = K at hk he
 have hat : W[K] = minW y l := at_id hj.w.2 (List.getElem_mem hk) hmem he
 have hv := hj.w.1 _ hmem
 have hsub : ∀ w ∈ W.eraseIdx K, w ∈ W := fun w hw => List.mem_of_mem_eraseIdx hw
 have hne : ∀ w ∈ W.eraseIdx K, w.Message.Id ≠ (minW y l).Message.Id := by
  intro w hw hid
  obtain ⟨i, hi, hik, rfl⟩ := List.mem_eraseIdx_iff_getElem.1 hw
  have e2 := at_id hj.w.2 (List.getElem_mem hi) hmem hid
  rw [← hat] at hid
  rcases Nat.lt_or_gt_of_ne hik with hh | hh
  ·have := List.pairwise_iff_getElem.1 hj.w.2 i K hi hk hh; omega
  ·have := List.pairwise_iff_getElem.1 hj.w.2 K i hk hi hh; omega
 have hle : ∀ w ∈ W, ¬ ltS (stW w) (stW (minW y l)) := by
  intro w hw
  rw [hW] at hw
  rcases List.mem_cons.1 hw with rfl | hw
  ·exact (minW_le l _).1
  ·exact (minW_le l y).2 w hw
 have hid := hv.1.id
 have hJ : J c (W.eraseIdx K) (D ++ [stW (minW y l)]) := by
  refine ⟨hj.c1, (hj.d.snoc _).2 ⟨⟨⟨?_, ?_, hid.1, ?_⟩, hv.2.1, hv.2.2.1⟩, hv.2.2.2.2, fun hm => ?_⟩, fun w hw => ?_, hj.w.2.sublist (List.eraseIdx_sublist _ _)⟩
  ·have := hv.2.1; show 0 ≤ (minW y l).Time; omega
  ·have := hv.2.2.1; have := hj.c1; show (minW y l).Time ≤ 1073741824; omega
  ·have := hid.2; show (minW y l).Message.Id < 6291456; omega
  ·obtain ⟨x, hx, he2⟩ := List.mem_map.1 hm
   exact hv.2.2.2.1 x hx he2
  ·have hw1 := hj.w.1 w (hsub w hw)
   refine ⟨hw1.1, hw1.2.1, hw1.2.2.1, fun x hx => ?_, fun x hx => ?_⟩
   ·rcases List.mem_append.1 hx with hx | hx
    ·exact hw1.2.2.2.1 x hx
    ·simp at hx; subst hx; exact fun e => hne w hw e.symm
   ·simp at hx; subst hx
    exact ltS_total (fun e => hne w hw e.symm) (hle w (hsub w hw))
 exact ⟨K, hk, rfl, hat, hJ⟩
theorem less14_eq (a b : TStamp) : m_towncrierref14_Less a b = some (decide (ltS a b)) := by
 rw [m_towncrierref14_Less]
 congr 1
 rw [Bool.eq_iff_iff]
 simp only [Bool.or_eq_true, Bool.and_eq_true, decide_eq_true_eq, beq_iff_eq]
 exact Iff.rfl
theorem getW {W : List TWait} {k : Nat} (h : k < W.length) : W.getD k default = W[k] := by simp [List.getD, List.getElem?_eq_getElem h]
theorem waits_loop (id : Int) : ∀ (l : List TWait) (n : Nat), (∃ (k : Nat) (h : k < l.length), l[k].Message.Id = id ∧ m_towncrierref15_waits_loop1 id l n = some (.inl ((n + k : Nat) : Int))) ∨ ((∀ w ∈ l, w.Message.Id ≠ id) ∧ m_towncrierref15_waits_loop1 id l n = some (.inr ())) := by
 intro l
 induction l with
 | nil => intro n; exact .inr ⟨by simp, rfl⟩
 | cons y l ih =>
  intro n
  rw [m_towncrierref15_waits_loop1]
  by_cases h : y.Message.Id = id
  ·rw [if_pos h]; exact .inl ⟨0, by simp, h, rfl⟩
  ·rw [if_neg h]
   rcases ih (n + 1) with ⟨k, hk, h1, h2⟩ | ⟨h1, h2⟩
   ·exact .inl ⟨k + 1, by simp; omega, by simpa using h1, by rw [h2]; congr 3; omega⟩
   ·refine .inr ⟨fun w hw => ?_, h2⟩
    rcases List.mem_cons.1 hw with rfl | hw
    ·exact h
    ·exact h1 w hw
theorem waits_eq (s : TSkeen) (id : Int) (hu : IdsUp s.Waits) : m_towncrierref15_waits s id = some (if (∃ w ∈ s.Waits, w.Message.Id = id) then ((plc id s.Waits : Nat) : Int) else -1) := by
 rw [m_towncrierref15_waits]
 rcases waits_loop id s.Waits 0 with ⟨k, hk, h1, h2⟩ | ⟨h1, h2⟩
 ·rw [h2, if_pos ⟨_, List.getElem_mem hk, h1⟩]
  obtain ⟨hp, he⟩ := (plc_at id s.Waits hu).1 ⟨_, List.getElem_mem hk, h1⟩
  have : k = plc id s.Waits := by
   rcases Nat.lt_trichotomy k (plc id s.Waits) with hh | hh | hh
   ·have := List.pairwise_iff_getElem.1 hu k _ hk hp hh; omega
   ·exact hh
   ·have := List.pairwise_iff_getElem.1 hu _ k hp hk hh; omega
  subst this
  simp
 ·rw [h2, if_neg (by rintro ⟨w, hw, he⟩; exact h1 w hw he)]; rfl
theorem rdone_eq (s : TSkeen) (id : Int) : m_towncrierref15_done s id = some (s.Done.any fun x => x.Id == id) := by
 rw [m_towncrierref15_done]
 have : ∀ l : List TStamp, m_towncrierref15_done_loop1 id l = some (if (l.any fun x => x.Id == id) = true then .inl true else .inr ()) := by
  intro l
  induction l with
  | nil => rfl
  | cons y l ih =>
   rw [m_towncrierref15_done_loop1]
   by_cases h : y.Id = id
   ·rw [if_pos h]; simp [h]
   ·rw [if_neg h, ih]; simp [h]
 rw [this]
 cases s.Done.any fun x => x.Id == id <;> rfl
theorem with1 (W : List TWait) (w : TWait) (hW : W.length ≤ 1000) : ∀ (fu k : Nat) (acc : List TWait), W.length - k < fu → acc.length ≤ 2000 + k → k ≤ W.length → m_towncrierref15_with_w_loop1 W w fu acc (k : Int) = some (acc ++ (W.drop k).filter fun x => decide (x.Message.Id < w.Message.Id)) := by
 intro fu
 induction fu with
 | zero => intro k acc h; omega
 | succ fu ih =>
  intro k acc h ha hk
  rw [m_towncrierref15_with_w_loop1]
  by_cases hlt : k < W.length
  ·have hw : wr .i64 ((k : Int) + 1) = ((k + 1 : Nat) : Int) := by rw [wr_i (by omega) (by omega)]; omega
   rw [if_pos (by omega), if_pos (by omega), Int.toNat_natCast, getW hlt, hw, List.drop_eq_getElem_cons hlt, List.filter_cons]
   by_cases hc : W[k].Message.Id < w.Message.Id
   ·rw [if_pos hc, if_pos (by omega), if_pos (by simp; omega), if_pos (by simpa using hc)]
    simp only [Option.bind_some]
    rw [ih (k + 1) _ (by omega) (by simp; omega) (by omega)]
    simp
   ·rw [if_neg hc, if_neg (by simpa using hc)]
    simp only [Option.bind_some]
    exact ih (k + 1) _ (by omega) (by omega) (by omega)
  ·rw [if_neg (by omega), List.drop_of_length_le (by omega)]
   simp
theorem with2 (W : List TWait) (w : TWait) (hW : W.length ≤ 1000) : ∀ (fu k : Nat) (acc : List TWait), W.length - k < fu → acc.length ≤ 4000 + k → k ≤ W.length → m_towncrierref15_with_w_loop2 W w fu acc (k : Int) = some (acc ++ (W.drop k).filter fun x => decide (x.Message.Id > w.Message.Id)) := by
 intro fu
 induction fu with
 | zero => intro k acc h; omega
 | succ fu ih =>
  intro k acc h ha hk
  rw [m_towncrierref15_with_w_loop2]
  by_cases hlt : k < W.length
  ·have hw : wr .i64 ((k : Int) + 1) = ((k + 1 : Nat) : Int) := by rw [wr_i (by omega) (by omega)]; omega
   rw [if_pos (by omega), if_pos (by omega), Int.toNat_natCast, getW hlt, hw, List.drop_eq_getElem_cons hlt, List.filter_cons]
   by_cases hc : W[k].Message.Id > w.Message.Id
   ·rw [if_pos hc, if_pos (by omega), if_pos (by simp; omega), if_pos (by simpa using hc)]
    simp only [Option.bind_some]
    rw [ih (k + 1) _ (by omega) (by simp; omega) (by omega)]
    simp
   ·rw [if_neg hc, if_neg (by simpa using hc)]
    simp only [Option.bind_some]
    exact ih (k + 1) _ (by omega) (by omega) (by omega)
  ·rw [if_neg (by omega), List.drop_of_length_le (by omega)]
   simp
theorem plc_zero {id : Int} {l : List TWait} (h : ∀ x ∈ l, id < x.Message.Id) : plc id l = 0 := by
 cases l with
 | nil => rfl
 | cons y l => rw [plc, if_neg]; have := h y (List.mem_cons_self ..); omega
theorem cut_up (id : Int) : ∀ (l : List TWait), IdsUp l → (∀ x ∈ l, x.Message.Id ≠ id) → (l.filter fun x => decide (x.Message.Id < id)) = l.take (plc id l) ∧ (l.filter fun x => decide (x.Message.Id > id)) = l.drop (plc id l) := by
 intro l
 induction l with
 | nil => intro _ _; exact ⟨rfl, rfl⟩
 | cons y l ih =>
  intro hu hn
  have hu' := List.pairwise_cons.1 hu
  obtain ⟨h1, h2⟩ := ih hu'.2 fun x hx => hn x (List.mem_cons_of_mem _ hx)
  rw [plc]
  by_cases h : y.Message.Id < id
  ·rw [if_pos h]
   have h' : ¬ id < y.Message.Id := by omega
   simp [h, h', h1, h2]
  ·have hy := hn y (List.mem_cons_self ..)
   have hz : plc id l = 0 := plc_zero fun x hx => by have := hu'.1 x hx; omega
   rw [if_neg h]
   rw [hz] at h1 h2
   have h' : id < y.Message.Id := by omega
   rw [List.filter_cons, List.filter_cons, if_neg (by simpa using h), if_pos (by simpa using h'), h1, h2]
   simp
theorem with_eq (W : List TWait) (w : TWait) (hW : W.length ≤ 1000) (hu : IdsUp W) (hn : ∀ x ∈ W, x.Message.Id ≠ w.Message.Id) : m_towncrierref15_with_w W w = some (W.take (plc w.Message.Id W) ++ w :: W.drop (plc w.Message.Id W)) := by
 obtain ⟨h1, h2⟩ := cut_up w.Message.Id W hu hn
 have e1 := with1 W w hW (W.length + 1) 0 [] (by omega) (by simp) (by omega)
 rw [show ((0 : Nat) : Int) = 0 from rfl, List.drop_zero, h1, List.nil_append] at e1
 have e2 := with2 W w hW (W.length + 1) 0 (W.take (plc w.Message.Id W) ++ [w]) (by omega) (by simp; omega) (by omega)
 rw [show ((0 : Nat) : Int) = 0 from rfl, List.drop_zero, h2] at e2
 rw [m_towncrierref15_with_w, e1]
 simp only [Option.bind_some]
 rw [if_pos (by simp; omega), e2]
 simp
theorem without1 (W : List TWait) (k : Nat) (hW : W.length ≤ 1000) : ∀ (fu i : Nat) (acc : List TWait), W.length - i < fu → acc.length ≤ 2000 + i → i ≤ W.length → m_towncrierref15_without_w_loop1 W (k : Int) fu acc (i : Int) = some (acc ++ if i ≤ k then (W.drop i).eraseIdx (k - i) else W.drop i) := by
 intro fu
 induction fu with
 | zero => intro i acc h; omega
 | succ fu ih =>
  intro i acc h ha hi
  rw [m_towncrierref15_without_w_loop1]
  by_cases hlt : i < W.length
  ·have hw : wr .i64 ((i : Int) + 1) = ((i + 1 : Nat) : Int) := by rw [wr_i (by omega) (by omega)]; omega
   rw [if_pos (by omega), hw, List.drop_eq_getElem_cons hlt]
   by_cases hc : i = k
   ·subst hc
    rw [if_neg (by omega)]
    simp only [Option.bind_some]
    rw [ih (i + 1) _ (by omega) (by omega) (by omega), if_neg (by omega)]
    simp
   ·rw [if_pos (by omega), if_pos (by omega), Int.toNat_natCast, getW hlt, if_pos (by simp; omega)]
    simp only [Option.bind_some]
    rw [ih (i + 1) _ (by omega) (by simp; omega) (by omega)]
    by_cases hik : i ≤ k
    ·rw [if_pos (by omega), if_pos hik]
     obtain ⟨d, hd⟩ : ∃ d, k - i = d + 1 := ⟨k - i - 1, by omega⟩
     rw [hd, show k - (i + 1) = d by omega, List.eraseIdx_cons_succ, List.append_assoc, List.singleton_append]
    ·rw [if_neg (by omega), if_neg hik]
     simp
  ·rw [if_neg (by omega), List.drop_of_length_le (by omega)]
   simp
theorem without_eq (W : List TWait) (k : Nat) (hW : W.length ≤ 1000) : m_towncrierref15_without_w W (k : Int) = some (W.eraseIdx k) := by
 have := without1 W k hW (W.length + 1) 0 [] (by omega) (by simp) (by omega)
 rw [show ((0 : Nat) : Int) = 0 from rfl] at this
 rw [m_towncrierref15_without_w, this]
 simp
theorem least1 (W : List TWait) (hW : W.length ≤ 1000) : ∀ (fu i a : Nat) (ha : a < W.length), W.length - i < fu → i ≤ W.length → ∃ (j : Nat) (hj : j < W.length), m_towncrierref15_least_loop1 W fu (a : Int) (i : Int) = some (j : Int) ∧ W[j] = minW W[a] (W.drop i) := by
 intro fu
 induction fu with
 | zero => intro i a ha h; omega
 | succ fu ih =>
  intro i a ha h hi
  rw [m_towncrierref15_least_loop1]
  by_cases hlt : i < W.length
  ·have hw : wr .i64 ((i : Int) + 1) = ((i + 1 : Nat) : Int) := by rw [wr_i (by omega) (by omega)]; omega
   have e1 : m_towncrierref15_Stamp W[i] = some (stW W[i]) := rfl
   have e2 : m_towncrierref15_Stamp W[a] = some (stW W[a]) := rfl
   rw [if_pos (by omega), if_pos (by omega), Int.toNat_natCast, Int.toNat_natCast, getW hlt, getW ha, e1, e2]
   simp only [Option.bind_some]
   rw [if_pos (by omega), less14_eq, hw, List.drop_eq_getElem_cons hlt, minW]
   simp only [Option.bind_some]
   by_cases hc : ltS (stW W[i]) (stW W[a])
   ·rw [if_pos (by simpa using hc), if_pos hc]
    simp only [Option.bind_some]
    exact ih (i + 1) i hlt (by omega) (by omega)
   ·rw [if_neg (by simpa using hc), if_neg hc]
    simp only [Option.bind_some]
    exact ih (i + 1) a ha (by omega) (by omega)
  ·rw [if_neg (by omega), List.drop_of_length_le (by omega)]
   exact ⟨a, ha, rfl, rfl⟩
theorem least_eq (W : List TWait) (hW : W.length ≤ 1000) {y : TWait} {l : List TWait} (h : W = y :: l) : ∃ (j : Nat) (hj : j < W.length), m_towncrierref15_least W = some (j : Int) ∧ W[j] = minW y l := by
 have h0 : 0 < W.length := by rw [h]; simp
 obtain ⟨j, hj, h1, h2⟩ := least1 W hW (W.length + 1) 1 0 h0 (by omega) (by omega)
 refine ⟨j, hj, ?_, ?_⟩
 ·rw [m_towncrierref15_least]
  have h1 : m_towncrierref15_least_loop1 W (W.length + 1) 0 1 = _ := h1
  rw [h1]; rfl
 ·rw [h2]; subst h; rfl
end Go.Proofs
end
section
namespace Go.Proofs
open Go.Tm
set_option linter.unusedSimpArgs false
set_option linter.unusedVariables false
theorem idx_up {W : List TWait} (hu : IdsUp W) {i j : Nat} (hi : i < W.length) (hj : j < W.length) (h : W[i] = W[j]) : i = j := by
 rcases Nat.lt_trichotomy i j with hh | hh | hh
 ·have := List.pairwise_iff_getElem.1 hu i j hi hj hh; rw [h] at this; omega
 ·exact hh
 ·have := List.pairwise_iff_getElem.1 hu j i hj hi hh; rw [h] at this; omega
theorem del2 (c0 : Tskeen_clock) (c : Int) : ∀ (fu fu' : Nat) (W : List TWait) (D : List TStamp) (M : List TMessage), W.length < fu → W.length < fu' → J c W D → W.length + D.length ≤ 1000 → M.length + W.length ≤ 1000 →
  m_towncrierref15_Put_loop1 fu' W D M = m_skeen_clock_deliver_loop1 c0 fu W D M := by
 intro fu
 induction fu with
 | zero => intro fu' W D M h; omega
 | succ fu ih =>
  intro fu' W D M h h' hj h1 h2
  obtain ⟨fu', rfl⟩ : ∃ f, fu' = f + 1 := ⟨fu' - 1, by omega⟩
  rw [m_skeen_clock_deliver_loop1, m_towncrierref15_Put_loop1]
  cases hW : W with
  | nil => simp
  | cons y l =>
   have hpos : ((y :: l).length : Int) > 0 := by simp only [List.length_cons]; omega
   obtain ⟨j, hjl, e1, e2⟩ := least_eq W (by omega) hW
   obtain ⟨K, hk, e3, e4, hJ⟩ := hj.del hW
   have hjk : j = K := idx_up hj.w.2 hjl hk (by rw [e2, e4])
   subst hjk
   have hmem : minW y l ∈ W := by rw [← e4]; exact List.getElem_mem hk
   rw [if_pos hpos, if_pos hpos, minw_eq y l (by rw [hW] at h1; simp at h1; omega)]
   rw [hW] at e1
   rw [e1]
   simp only [Option.bind_some]
   have hg : (y :: l).getD j default = minW y l := by rw [← hW, getW hjl, e4]
   have hlt : (j : Int) < ((y :: l).length : Int) := by rw [← hW]; omega
   rw [if_pos ⟨by omega, hlt⟩, Int.toNat_natCast, hg]
   by_cases hf : (minW y l).Final = true
   ·simp only [hf, not_true_eq_false, if_false]
    rw [if_pos ⟨by omega, hlt⟩]
    have hfd := find_eq ⟨⟨c0.Skeen.Clock, W, D⟩⟩ (minW y l).Message.Id (by show W.length < 1000000; omega) hj.w.2 hj.ids (hj.ids _ hmem)
    have e5 : m_towncrierref15_Stamp (minW y l) = some (stW (minW y l)) := rfl
    have e6 : m_skeen_of (minW y l) = some (stW (minW y l)) := rfl
    rw [← hW, hfd, e5, e6]
    simp only [Option.bind_some, e3, Int.toNat_natCast]
    have hlt' : (j : Int) < (W.length : Int) := by omega
    have hM : M.length + W.length ≤ 1000 := h2
    rw [if_pos (by simp; omega), if_pos ⟨by omega, hlt'⟩, if_pos (by simp; omega), without_eq W j (by omega)]
    simp only [Option.bind_some]
    rw [if_pos ⟨by omega, hlt'⟩, if_pos (by omega), if_pos (by simp; omega), if_pos (by simp; omega)]
    have hlen : (W.eraseIdx j).length = W.length - 1 := List.length_eraseIdx_of_lt hk
    exact ih fu' _ _ _ (by omega) (by omega) hJ (by simp; omega) (by simp; omega)
   ·simp only [hf, Bool.false_eq_true, not_false_eq_true, if_true]
theorem assign_eq2 (s : TSkeen) (g : Int) (m : TMessage) (hl : s.Waits.length ≤ 200) (hc0 : 0 ≤ s.Clock) (hj : J s.Clock s.Waits s.Done) (hm : MsgOk m) :
  (((∃ w ∈ s.Waits, w.Message.Id = m.Id) ∨ (s.Done.any fun x => x.Id == m.Id) = true ∨ g ∉ m.Groups) ∧ m_skeen_clock_assign ⟨s⟩ g m = some (0, ⟨s⟩)) ∨
  ((¬ ∃ w ∈ s.Waits, w.Message.Id = m.Id) ∧ (s.Done.any fun x => x.Id == m.Id) = false ∧ g ∈ m.Groups ∧
   (((s.Clock = 1073741824 ∨ (s.Waits.length : Int) = 200) ∧ m_skeen_clock_assign ⟨s⟩ g m = some (9, ⟨s⟩)) ∨
    (¬ (s.Clock = 1073741824 ∨ (s.Waits.length : Int) = 200) ∧ m_skeen_clock_assign ⟨s⟩ g m = some (0, ⟨⟨s.Clock + 1, s.Waits.take (plc m.Id s.Waits) ++ ⟨m, s.Clock + 1, false⟩ :: s.Waits.drop (plc m.Id s.Waits), s.Done⟩⟩)))) := by
 rw [m_skeen_clock_assign, find_eq ⟨s⟩ m.Id (by show s.Waits.length < 1000000; omega) hj.w.2 hj.ids hm.id, done_eq]
 simp only [Option.bind_some]
 by_cases hx : ∃ w ∈ s.Waits, w.Message.Id = m.Id
 ·left
  simp only [hx, decide_true, not_true_eq_false, if_false, true_or, Option.bind_some, if_true, true_and]
 ·simp only [hx, decide_false, Bool.false_eq_true, not_false_eq_true, if_true, false_or, Option.bind_some, true_and]
  cases hd : s.Done.any fun x => x.Id == m.Id with
  | true =>
   left
   simp only [not_true_eq_false, if_false, Option.bind_some, true_or, if_true, true_and]
  | false =>
   have hg := contains_eq m.Groups g
   simp only [Bool.false_eq_true, not_false_eq_true, if_true, false_or, Option.bind_some, hg, true_and]
   by_cases hgm : g ∈ m.Groups
   ·right
    simp only [hgm, decide_true, not_true_eq_false, if_false, true_and]
    by_cases hfull : s.Clock = 1073741824 ∨ (s.Waits.length : Int) = 200
    ·left; rw [if_pos hfull]; exact ⟨hfull, rfl⟩
    ·right
     have hc1 := hj.c1
     refine ⟨hfull, ?_⟩
     rw [if_neg hfull, clone_int _ (by have := hm.groups; omega)]
     simp only [Option.bind_some]
     have hple := plc_le m.Id s.Waits
     rw [if_pos (by omega), if_pos (by omega), wr_eq _ _ (by show (-9223372036854775808 : Int) ≤ _; omega) (by show _ ≤ (9223372036854775807 : Int); omega), Int.toNat_natCast]
   ·left
    simp only [hgm, decide_false, Bool.false_eq_true, not_false_eq_true, if_true, true_and]
theorem put_pre {β : Type} (s : TSkeen) (g : Int) (c : TCommand) (hu : IdsUp s.Waits) (A B : Option β) :
  (Option.bind (if c.Kind = 1 then m_towncrierref15_waits s c.Message.Id else some default) fun v1 =>
   Option.bind (if (c.Kind = 1) ∧ (v1 < 0) then m_towncrierref15_done s c.Message.Id else some default) fun v2 =>
   Option.bind (if ((c.Kind = 1) ∧ (v1 < 0)) ∧ (¬ (v2 = true)) then m_towncrierref06_Has c.Message.Groups g else some default) fun v3 =>
   if (((c.Kind = 1) ∧ (v1 < 0)) ∧ (¬ (v2 = true))) ∧ (v3 = true) then A else B) =
  if c.Kind = 1 ∧ (¬ ∃ w ∈ s.Waits, w.Message.Id = c.Message.Id) ∧ (s.Done.any fun x => x.Id == c.Message.Id) = false ∧ g ∈ c.Message.Groups then A else B := by
 by_cases k1 : c.Kind = 1
 ·rw [if_pos k1, waits_eq s _ hu]
  simp only [Option.bind_some, k1, true_and, rdone_eq, hasR_eq]
  by_cases hx : ∃ w ∈ s.Waits, w.Message.Id = c.Message.Id
  ·rw [if_pos hx]
   have : ¬ (((plc c.Message.Id s.Waits : Nat) : Int) < 0) := by omega
   simp [this, hx]
  ·rw [if_neg hx]
   simp only [show ((-1 : Int) < 0) by omega, if_true, Option.bind_some, true_and]
   cases hd : s.Done.any fun x => x.Id == c.Message.Id with
   | true => simp
   | false =>
    simp only [Bool.false_eq_true, not_false_eq_true, if_true, Option.bind_some, true_and, hx]
    by_cases hgm : g ∈ c.Message.Groups <;> simp [hgm]
 ·simp [k1]
theorem put_mid {β : Type} (c : TCommand) (D : List TStamp) (n : Int) (W : List TWait) (hu : IdsUp W) (f : Int × List TWait → Option β) :
  (Option.bind (m_towncrierref15_waits (⟨n, W, D⟩ : TSkeen) c.Id) fun v6 =>
   Option.bind (α := Int × (List TWait)) (if ((c.Kind = 2) ∧ (v6 ≥ 0)) → (0 ≤ v6 ∧ v6 < (W.length : Int)) then
   if (((c.Kind = 2) ∧ (v6 ≥ 0)) ∧ (¬ ((W.getD v6.toNat default).Final = true))) → (0 ≤ v6 ∧ v6 < (W.length : Int)) then
   if (((c.Kind = 2) ∧ (v6 ≥ 0)) ∧ (¬ ((W.getD v6.toNat default).Final = true))) ∧ (c.Time ≥ (W.getD v6.toNat default).Time) then
   if (0 ≤ v6 ∧ v6 < (W.length : Int)) then
   if (0 ≤ v6 ∧ v6 < ((W.set v6.toNat (⟨(W.getD v6.toNat default).Message, c.Time, (W.getD v6.toNat default).Final⟩ : TWait)).length : Int)) then
   some ((max n c.Time), ((W.set v6.toNat (⟨(W.getD v6.toNat default).Message, c.Time, (W.getD v6.toNat default).Final⟩ : TWait)).set v6.toNat (⟨((W.set v6.toNat (⟨(W.getD v6.toNat default).Message, c.Time, (W.getD v6.toNat default).Final⟩ : TWait)).getD v6.toNat default).Message, ((W.set v6.toNat (⟨(W.getD v6.toNat default).Message, c.Time, (W.getD v6.toNat default).Final⟩ : TWait)).getD v6.toNat default).Time, true⟩ : TWait)))
   else none
   else none
   else
   some (n, W)
   else none
   else none) f) =
  f (if c.Kind = 2 ∧ ∃ (k : Nat) (hk : k < W.length), W[k].Message.Id = c.Id ∧ W[k].Final = false ∧ W[k].Time ≤ c.Time then
   (max n c.Time, W.set (plc c.Id W) ⟨(W.getD (plc c.Id W) default).Message, c.Time, true⟩) else (n, W)) := by
 rw [waits_eq ⟨n, W, D⟩ c.Id hu]
 simp only [Option.bind_some]
 by_cases k2 : c.Kind = 2
 ·simp only [k2, true_and]
  by_cases hx : ∃ w ∈ W, w.Message.Id = c.Id
  ·obtain ⟨hk, he⟩ := (plc_at c.Id W hu).1 hx
   rw [if_pos hx]
   simp only [Int.toNat_natCast, getW hk]
   have b1 : (0 : Int) ≤ ((plc c.Id W : Nat) : Int) ∧ ((plc c.Id W : Nat) : Int) < (W.length : Int) := by omega
   rw [if_pos (fun _ => b1), if_pos (fun _ => b1)]
   have huniq : (∃ (k : Nat) (hk : k < W.length), W[k].Message.Id = c.Id ∧ W[k].Final = false ∧ W[k].Time ≤ c.Time) ↔ (W[plc c.Id W].Final = false ∧ W[plc c.Id W].Time ≤ c.Time) := by
    constructor
    ·rintro ⟨k, hk', h1, h2, h3⟩
     have : W[k] = W[plc c.Id W] := at_id hu (List.getElem_mem hk') (List.getElem_mem hk) (h1.trans he.symm)
     rw [← this]; exact ⟨h2, h3⟩
    ·intro h; exact ⟨_, hk, he, h⟩
   simp only [huniq]
   by_cases hc : W[plc c.Id W].Final = false ∧ W[plc c.Id W].Time ≤ c.Time
   ·rw [if_pos ⟨⟨by omega, by simp [hc.1]⟩, by omega⟩, if_pos b1, if_pos (by simp only [List.length_set]; exact b1), if_pos hc]
    simp only [Option.bind_some, List.set_set]
    congr 2
    simp [List.getD, hk]
   ·rw [if_neg, if_neg hc]
    ·rfl
    ·rintro ⟨⟨_, h1⟩, h2⟩
     refine hc ⟨by simpa using h1, by omega⟩
  ·rw [if_neg hx]
   have hno : ¬ ∃ (k : Nat) (hk : k < W.length), W[k].Message.Id = c.Id ∧ W[k].Final = false ∧ W[k].Time ≤ c.Time := by
    rintro ⟨k, hk, h1, _⟩; exact hx ⟨_, List.getElem_mem hk, h1⟩
   rw [if_neg hno]
   simp
 ·simp [k2]
end Go.Proofs
end
section
namespace Go.Proofs
open Go.Tm
set_option linter.unusedSimpArgs false
set_option linter.unusedVariables false
theorem tail_eq (D : List TStamp) (ck : Int) (W : List TWait) (hJ : J ck W D) (hl : W.length ≤ 200) (hd : D.length ≤ 200) (fu : Nat) (hf : W.length < fu) :
  ∃ W' D' M', m_skeen_clock_deliver ⟨⟨ck, W, D⟩⟩ = some (M', ⟨⟨ck, W', D'⟩⟩) ∧ m_towncrierref15_Put_loop1 fu W D [] = some (W', D', M') := by
 obtain ⟨ws, W', g1, _⟩ := del_loop ⟨⟨ck, W, D⟩⟩ ck (W.length + 1) W D [] (by omega) hJ (by omega) (by simp; omega)
 refine ⟨W', D ++ ws.map stW, [] ++ ws.map TWait.Message, ?_, ?_⟩
 ·rw [m_skeen_clock_deliver]
  have g1 : m_skeen_clock_deliver_loop1 ⟨⟨ck, W, D⟩⟩ (W.length + 1) W D [] = _ := g1
  simp only [g1, Option.bind_some]
 ·rw [del2 ⟨⟨ck, W, D⟩⟩ ck (W.length + 1) fu W D [] (by omega) hf hJ (by omega) (by simp; omega), g1]
theorem put_eq (s : TSkeen) (g : Int) (c : TCommand) (h : V s) (hg : 0 ≤ g ∧ g < 4) (hc : m_command_Check c = some 0) :
  ∃ x m ok, m_towncrierref15_Put s g c = some (x, m, ok) ∧ m_skeen_Apply s g c = some (if ok = true then (x, m, 0) else (zSk, [], 9)) := by
 have hj := h.j
 have hlw := h.lw
 have hld := h.ld
 have hc0 := h.c0
 obtain ⟨e, he, hcc⟩ := cmd_tot c
 obtain ⟨hm1, hm2⟩ := hcc (by rw [he] at hc; exact Option.some.inj hc)
 have htw : m_skeen_Twin s = some s := twin_sk s (by omega) (by omega) (fun w hw => by have := (hj.w.1 w hw).1.groups; omega)
 rw [m_towncrierref15_Put, put_pre s g c hj.w.2]
 rw [m_skeen_Apply, check_ok h]
 simp only [Option.bind_some, not_true_eq_false, if_false]
 rw [if_neg (show ¬ (g < 0 ∨ g ≥ 4) by omega), hc]
 simp only [Option.bind_some, not_true_eq_false, if_false]
 rw [htw]
 simp only [Option.bind_some]
 -- how both end
 have fin : ∀ (W : List TWait) (ck : Int), J ck W s.Done → W.length ≤ 200 → W.length < s.Waits.length + 2 →
   ∃ W' D' M', m_skeen_clock_deliver ⟨⟨ck, W, s.Done⟩⟩ = some (M', ⟨⟨ck, W', D'⟩⟩) ∧ m_towncrierref15_Put_loop1 (s.Waits.length + 2) W s.Done [] = some (W', D', M') :=
  fun W ck hJ h1 h2 => tail_eq s.Done ck W hJ h1 hld _ h2
 have close : ∀ (W' : List TWait) (D' : List TStamp) (M' : List TMessage) (ck : Int), (if (D'.length : Int) > 200 then some (zSk, ([] : List TMessage), (9 : Int)) else some ((⟨ck, W', D'⟩ : TSkeen), M', 0)) =
   some (if decide ((D'.length : Int) ≤ 200) = true then ((⟨ck, W', D'⟩ : TSkeen), M', 0) else (zSk, [], 9)) := by
  intro W' D' M' ck
  by_cases hD : (D'.length : Int) > 200
  ·rw [if_pos hD, if_neg (by simp; omega)]
  ·rw [if_neg hD, if_pos (by simp; omega)]
 by_cases k1 : c.Kind = 1
 ·have k2 : ¬ c.Kind = 2 := by omega
  rw [if_pos k1]
  rcases assign_eq2 s g c.Message hlw hc0 hj (hm1 k1) with ⟨hb, ha⟩ | ⟨a1, a2, a3, hr⟩
  ·have ha : m_skeen_clock_assign ⟨s⟩ g c.Message = _ := ha
   rw [ha, if_neg (by
    rintro ⟨_, b1, b2, b3⟩
    rcases hb with h | h | h
    ·exact b1 h
    ·rw [h] at b2; cases b2
    ·exact h b3)]
   simp only [Option.bind_some, not_true_eq_false, if_false]
   rw [put_mid c s.Done s.Clock s.Waits hj.w.2, if_neg (fun hh => k2 hh.1)]
   obtain ⟨W', D', M', d1, d2⟩ := fin s.Waits s.Clock hj hlw (by omega)
   rw [d2, show (⟨s⟩ : Tskeen_clock) = ⟨⟨s.Clock, s.Waits, s.Done⟩⟩ from rfl, d1]
   simp only [Option.bind_some]
   exact ⟨_, _, _, rfl, close W' D' M' _⟩
  ·rw [if_pos ⟨k1, a1, a2, a3⟩]
   rcases hr with ⟨hf, ha⟩ | ⟨hf, ha⟩
   ·have ha : m_skeen_clock_assign ⟨s⟩ g c.Message = _ := ha
    rw [ha, if_pos hf]
    simp only [Option.bind_some]
    exact ⟨_, _, _, rfl, rfl⟩
   ·have ha : m_skeen_clock_assign ⟨s⟩ g c.Message = _ := ha
    have hw : wr .i64 (s.Clock + 1) = s.Clock + 1 := by have := hj.c1; rw [wr_i (by omega) (by omega)]
    have hmg := (hm1 k1).groups
    have hne : ∀ w ∈ s.Waits, w.Message.Id ≠ c.Message.Id := fun w hw he => a1 ⟨w, hw, he⟩
    have hnd : ∀ x ∈ s.Done, x.Id ≠ c.Message.Id := by
     intro x hxd he
     have := List.any_eq_false.1 a2 x hxd
     simp [he] at this
    have hJ := hj.ins c.Message (hm1 k1) hc0 (by have := hj.c1; omega) hnd hne
    rw [ha, if_neg hf, m_towncrierref15_TwinMessage, if_pos (by omega)]
    simp only [Option.bind_some, not_true_eq_false, if_false]
    rw [hw, with_eq s.Waits ⟨c.Message, s.Clock + 1, false⟩ (by omega) hj.w.2 hne]
    simp only [Option.bind_some]
    have hpl := plc_le c.Message.Id s.Waits
    have hlen : (s.Waits.take (plc c.Message.Id s.Waits) ++ ⟨c.Message, s.Clock + 1, false⟩ :: s.Waits.drop (plc c.Message.Id s.Waits)).length = s.Waits.length + 1 := by simp; omega
    rw [put_mid c s.Done (s.Clock + 1) _ hJ.w.2, if_neg (fun hh => k2 hh.1)]
    obtain ⟨W', D', M', d1, d2⟩ := fin _ _ hJ (by omega) (by omega)
    rw [d2, d1]
    simp only [Option.bind_some]
    exact ⟨_, _, _, rfl, close W' D' M' _⟩
 ·rw [if_neg k1, if_neg (fun hh => k1 hh.1)]
  simp only [Option.bind_some]
  rw [put_mid c s.Done s.Clock s.Waits hj.w.2]
  by_cases k2 : c.Kind = 2
  ·rw [if_pos k2]
   obtain ⟨i1, i2, i3⟩ := hm2 k2
   rcases final_eq s c.Id c.Time (by omega) hj i1 with ⟨hf, hno⟩ | ⟨k, hk, b1, b2, b3, hf⟩
   ·have hf : m_skeen_clock_final ⟨s⟩ c.Id c.Time = _ := hf
    rw [hf, if_neg (by
     rintro ⟨_, k, hk, b1, b2, b3⟩
     rcases hno _ (List.getElem_mem hk) b1 with hh | hh
     ·rw [b2] at hh; cases hh
     ·omega)]
    simp only [Option.bind_some]
    obtain ⟨W', D', M', d1, d2⟩ := fin s.Waits s.Clock hj hlw (by omega)
    rw [d2, show (⟨s⟩ : Tskeen_clock) = ⟨⟨s.Clock, s.Waits, s.Done⟩⟩ from rfl, d1]
    simp only [Option.bind_some]
    exact ⟨_, _, _, rfl, close W' D' M' _⟩
   ·have hf : m_skeen_clock_final ⟨s⟩ c.Id c.Time = _ := hf
    rw [hf, if_pos ⟨k2, k, hk, b1, b2, b3⟩]
    simp only [Option.bind_some]
    obtain ⟨hp, he'⟩ := (plc_at c.Id s.Waits hj.w.2).1 ⟨_, List.getElem_mem hk, b1⟩
    have hpk : plc c.Id s.Waits = k := idx_up hj.w.2 hp hk (at_id hj.w.2 (List.getElem_mem hp) (List.getElem_mem hk) (he'.trans b1.symm))
    rw [hpk, getW hk]
    obtain ⟨W', D', M', d1, d2⟩ := fin _ _ (hj.set k hk b3 i3) (by simpa using hlw) (by simp)
    rw [d2, d1]
    simp only [Option.bind_some]
    exact ⟨_, _, _, rfl, close W' D' M' _⟩
  ·rw [if_neg k2, if_neg (fun hh => k2 hh.1)]
   simp only [Option.bind_some]
   obtain ⟨W', D', M', d1, d2⟩ := fin s.Waits s.Clock hj hlw (by omega)
   rw [d2, show (⟨s⟩ : Tskeen_clock) = ⟨⟨s.Clock, s.Waits, s.Done⟩⟩ from rfl, d1]
   simp only [Option.bind_some]
   exact ⟨_, _, _, rfl, close W' D' M' _⟩
end Go.Proofs
end
section
namespace Go.Proofs
open Go.Tm
set_option linter.unusedSimpArgs false
set_option linter.unusedVariables false
theorem may14_eq (x : TStamp) : m_towncrierref14_May x = some (decide (StampOk x)) := by
 rw [m_towncrierref14_May]
 congr 1
 rw [Bool.eq_iff_iff]
 simp only [Bool.and_eq_true, decide_eq_true_eq]
 unfold StampOk
 constructor
 ·rintro ⟨⟨⟨a, b⟩, c⟩, d⟩; exact ⟨a, b, c, d⟩
 ·rintro ⟨a, b, c, d⟩; exact ⟨⟨⟨a, b⟩, c⟩, d⟩
theorem ml2 (s : TSkeen) (k : Nat) (hk : k < s.Done.length) (hl : s.Done.length ≤ 1000) : ∀ (fu j : Nat), k - j < fu → j ≤ k → m_towncrierref15_May_loop2 s (k : Int) fu (j : Int) = some (if ((s.Done.take k).drop j).any (fun x => x.Id == s.Done[k].Id) = true then .inl false else .inr ()) := by
 intro fu
 induction fu with
 | zero => intro j h; omega
 | succ fu ih =>
  intro j h hj
  rw [m_towncrierref15_May_loop2]
  by_cases hjk : j = k
  ·rw [if_neg (by omega), List.drop_eq_nil_of_le (by simp; omega)]
   rfl
  ·have hlen : j < (s.Done.take k).length := by rw [List.length_take]; omega
   rw [if_pos (by omega), if_pos ⟨by omega, by omega⟩, Int.toNat_natCast, Int.toNat_natCast, List.getD_eq_getElem?_getD, List.getElem?_eq_getElem (by omega), List.getD_eq_getElem?_getD, List.getElem?_eq_getElem hk, List.drop_eq_getElem_cons hlen, List.getElem_take, List.any_cons]
   simp only [Option.getD_some]
   by_cases he : s.Done[j].Id = s.Done[k].Id
   ·rw [if_pos he, if_pos (by simp [he])]
   ·rw [if_neg he, wr_i (by omega) (by omega), show ((j : Int) + 1) = ((j + 1 : Nat) : Int) by omega, ih (j + 1) (by omega) (by omega)]
    have : (s.Done[j].Id == s.Done[k].Id) = false := by simp [he]
    rw [this, Bool.false_or]
theorem take_last {D : List TStamp} {k : Nat} (h0 : 0 < k) (hk : k ≤ D.length) : (D.take k).getLast? = some D[k - 1] := by
 rw [List.getLast?_eq_getElem?, List.length_take, Nat.min_eq_left hk, List.getElem?_take, if_pos (by omega), List.getElem?_eq_getElem (by omega)]
theorem ml1 (s : TSkeen) (hl : s.Done.length ≤ 1000) : ∀ (fu k : Nat), s.Done.length - k < fu → k ≤ s.Done.length → DOk s.Clock (s.Done.take k) →
  (DOk s.Clock s.Done → m_towncrierref15_May_loop1 s fu (k : Int) = some (.inr ())) ∧ (¬ DOk s.Clock s.Done → m_towncrierref15_May_loop1 s fu (k : Int) = some (.inl false)) := by
 intro fu
 induction fu with
 | zero => intro k h; omega
 | succ fu ih =>
  intro k h hk h1
  rw [m_towncrierref15_May_loop1]
  by_cases hkl : k = s.Done.length
  ·rw [if_neg (by omega)]
   rw [hkl, List.take_length] at h1
   exact ⟨fun _ => rfl, fun h => absurd h1 h⟩
  have hkl : k < s.Done.length := by omega
  rw [if_pos (by omega), if_pos ⟨by omega, by omega⟩, Int.toNat_natCast, List.getD_eq_getElem?_getD, List.getElem?_eq_getElem hkl, may14_eq]
  simp only [Option.getD_some, Option.bind_some, decide_eq_true_eq]
  have hs := h1.snoc s.Done[k]
  have htk : s.Done.take k ++ [s.Done[k]] = s.Done.take (k + 1) := by rw [List.take_add_one, List.getElem?_eq_getElem hkl]; rfl
  rw [htk] at hs
  -- the round
  have key : ∀ q : Option (Bool ⊕ Unit), (DOk s.Clock (s.Done.take (k + 1)) → q = m_towncrierref15_May_loop1 s fu ((k + 1 : Nat) : Int)) → (¬ DOk s.Clock (s.Done.take (k + 1)) → q = some (.inl false)) →
   (DOk s.Clock s.Done → q = some (.inr ())) ∧ (¬ DOk s.Clock s.Done → q = some (.inl false)) := by
   intro q q1 q2
   by_cases hd : DOk s.Clock (s.Done.take (k + 1))
   ·rw [q1 hd]; exact ih (k + 1) (by omega) (by omega) hd
   ·refine ⟨fun h => absurd (DOk.pre (E := s.Done.drop (k + 1)) (by rw [List.take_append_drop]; exact h)) hd, fun _ => q2 hd⟩
  by_cases c1 : StampOk s.Done[k] ∧ 1 ≤ s.Done[k].Time ∧ s.Done[k].Time ≤ s.Clock
  ·have e1 : ¬ ((¬ StampOk s.Done[k] ∨ s.Done[k].Time < 1) ∨ s.Done[k].Time > s.Clock) := by
    rintro ((h | h) | h)
    ·exact h c1.1
    ·omega
    ·omega
   have hm : ((s.Done.take k).drop 0).any (fun x => x.Id == s.Done[k].Id) = true ↔ s.Done[k].Id ∈ (s.Done.take k).map TStamp.Id := by
    rw [List.drop_zero, List.any_eq_true, List.mem_map]
    simp
   have l2 := ml2 s k hkl hl (s.Done.length + 1) 0 (by omega) (by omega)
   have l2 : m_towncrierref15_May_loop2 s (k : Int) (s.Done.length + 1) 0 = _ := l2
   by_cases c2 : k = 0
   ·rw [if_pos (fun h => by omega), if_neg (fun h => by omega)]
    simp only [Option.bind_some]
    rw [if_neg (by rintro (h | h); exact e1 h; omega), l2]
    have hla : ∀ p, (s.Done.take k).getLast? = some p → ltS p s.Done[k] := by intro p hp; rw [c2, List.take_zero] at hp; cases hp
    by_cases c3 : s.Done[k].Id ∈ (s.Done.take k).map TStamp.Id
    ·rw [if_pos (hm.2 c3)]
     simp only [Option.bind_some]
     exact ⟨(key (some (.inl false)) (fun h => absurd c3 (hs.1 h).2.2) (fun _ => rfl)).1, fun _ => trivial⟩
    ·rw [if_neg (fun h => c3 (hm.1 h))]
     simp only [Option.bind_some]
     rw [wr_i (by omega) (by omega)]
     exact key _ (fun _ => by congr 1) (fun h => absurd (hs.2 ⟨c1, hla, c3⟩) h)
   ·rw [if_pos (fun _ => by rw [wr_i (by omega) (by omega)]; omega), if_pos ⟨e1, by omega⟩, wr_i (by omega) (by omega), show ((k : Int) - 1).toNat = k - 1 by omega, List.getD_eq_getElem?_getD, List.getElem?_eq_getElem (by omega), less14_eq]
    simp only [Option.getD_some, Option.bind_some, decide_eq_true_eq]
    have hp := take_last (D := s.Done) (k := k) (by omega) (by omega)
    by_cases c4 : ltS s.Done[k - 1] s.Done[k]
    ·rw [if_neg (by rintro (h | h); exact e1 h; exact h.2 c4), l2]
     have hla : ∀ p, (s.Done.take k).getLast? = some p → ltS p s.Done[k] := by rw [hp]; intro p hq; cases hq; exact c4
     by_cases c3 : s.Done[k].Id ∈ (s.Done.take k).map TStamp.Id
     ·rw [if_pos (hm.2 c3)]
      simp only [Option.bind_some]
      exact ⟨(key (some (.inl false)) (fun h => absurd c3 (hs.1 h).2.2) (fun _ => rfl)).1, fun _ => trivial⟩
     ·rw [if_neg (fun h => c3 (hm.1 h))]
      simp only [Option.bind_some]
      rw [wr_i (by omega) (by omega)]
      exact key _ (fun _ => by congr 1) (fun h => absurd (hs.2 ⟨c1, hla, c3⟩) h)
    ·rw [if_pos (.inr ⟨by omega, c4⟩)]
     simp only [Option.bind_some]
     exact ⟨(key (some (.inl false)) (fun h => absurd ((hs.1 h).2.1 _ hp) c4) (fun _ => rfl)).1, fun _ => trivial⟩
  ·have e1 : ((¬ StampOk s.Done[k] ∨ s.Done[k].Time < 1) ∨ s.Done[k].Time > s.Clock) := by
    by_cases c0 : StampOk s.Done[k]
    ·have := c1; simp only [c0, true_and] at this; omega
    ·exact .inl (.inl c0)
   rw [if_pos (fun h => absurd e1 h.1), if_neg (fun h => absurd e1 h.1)]
   simp only [Option.bind_some]
   rw [if_pos (.inl e1)]
   simp only [Option.bind_some]
   exact ⟨(key (some (.inl false)) (fun h => absurd (hs.1 h).1 c1) (fun _ => rfl)).1, fun _ => trivial⟩
theorem ml3 (s : TSkeen) (hl : s.Done.length ≤ 1000) : ∀ (l pre : List TWait), s.Waits = pre ++ l → WOk s.Clock s.Done pre →
  (WOk s.Clock s.Done (pre ++ l) → m_towncrierref15_May_loop3 s l pre.length = some (.inr ())) ∧ (¬ WOk s.Clock s.Done (pre ++ l) → m_towncrierref15_May_loop3 s l pre.length = some (.inl false)) := by
 intro l
 induction l with
 | nil =>
  intro pre _ h1
  rw [List.append_nil]
  exact ⟨fun _ => rfl, fun h => absurd h1 h⟩
 | cons y l ih =>
  intro pre hw h1
  have ea : pre ++ y :: l = (pre ++ [y]) ++ l := by simp
  have hs := h1.snoc y
  have el : (pre ++ [y]).length = pre.length + 1 := by simp
  have hprev : ∀ p, pre.getLast? = some p → s.Waits.getD (pre.length - 1) default = p := by
   intro p hp
   obtain ⟨E, rfl⟩ := List.getLast?_eq_some_iff.1 hp
   rw [hw]; simp [List.getD]
  have key : ∀ k : Option (Bool ⊕ Unit), (WOk s.Clock s.Done (pre ++ [y]) → k = m_towncrierref15_May_loop3 s l (pre.length + 1)) → (¬ WOk s.Clock s.Done (pre ++ [y]) → k = some (.inl false)) → m_towncrierref15_May_loop3 s (y :: l) pre.length = k := by
   intro k k1 k2
   rw [m_towncrierref15_May_loop3, maym_eq]
   simp only [Option.bind_some, decide_eq_true_eq, rdone_eq]
   let T1 : Prop := (((¬ MOk y.Message ∨ y.Time < 1) ∨ y.Time > s.Clock) ∨ (((pre.length : Int) > 0) ∧ y.Message.Id ≤ (s.Waits.getD (pre.length - 1) default).Message.Id))
   have h3 : (s.Done.any fun x => x.Id == y.Message.Id) = true ↔ ¬ ∀ x ∈ s.Done, x.Id ≠ y.Message.Id := by
    rw [List.any_eq_true]; simp
   have t1 : ¬ T1 ↔ (MsgOk y.Message ∧ 1 ≤ y.Time ∧ y.Time ≤ s.Clock) ∧ (∀ p, pre.getLast? = some p → p.Message.Id < y.Message.Id) := by
    have h4 : (((pre.length : Int) > 0) ∧ y.Message.Id ≤ (s.Waits.getD (pre.length - 1) default).Message.Id) ↔ ¬ ∀ p, pre.getLast? = some p → p.Message.Id < y.Message.Id := by
     cases hq : pre.getLast? with
     | none => rw [List.getLast?_eq_none_iff] at hq; subst hq; simp
     | some p =>
      rw [hprev p hq]
      have : pre.length > 0 := by
       rcases Nat.eq_zero_or_pos pre.length with h0 | h0
       ·rw [List.length_eq_zero_iff.1 h0] at hq; simp at hq
       ·exact h0
      constructor
      ·rintro ⟨_, h5⟩ h6; have := h6 p rfl; omega
      ·intro h5
       refine ⟨by omega, ?_⟩
       apply Decidable.byContradiction
       intro h6
       exact h5 fun q hq' => by cases hq'; omega
    show ¬ (((¬ MOk y.Message ∨ y.Time < 1) ∨ y.Time > s.Clock) ∨ _) ↔ _
    rw [h4, MsgOk_iff]
    constructor
    ·intro h
     refine ⟨⟨?_, ?_, ?_⟩, ?_⟩
     ·apply Classical.byContradiction; intro q; exact h (.inl (.inl (.inl q)))
     ·apply Decidable.byContradiction; intro q; exact h (.inl (.inl (.inr (by omega))))
     ·apply Decidable.byContradiction; intro q; exact h (.inl (.inr (by omega)))
     ·apply Classical.byContradiction; intro q; exact h (.inr q)
    ·rintro ⟨⟨q1, q2, q3⟩, q5⟩ (((q | q) | q) | q)
     ·exact q q1
     ·omega
     ·omega
     ·exact q q5
   show Option.bind (if ¬ T1 then _ else _) _ = k
   by_cases c1 : T1
   ·rw [if_neg (fun h => h c1)]
    simp only [Option.bind_some]
    show (if T1 ∨ _ then _ else _) = k
    rw [if_pos (.inl c1), k2]
    intro h
    have := hs.1 h
    exact t1.2 ⟨⟨this.1.1, this.1.2.1, this.1.2.2.1⟩, this.2⟩ c1
   ·rw [if_pos c1]
    simp only [Option.bind_some]
    show (if T1 ∨ _ then _ else _) = k
    have q := t1.1 c1
    by_cases c5 : (s.Done.any fun x => x.Id == y.Message.Id) = true
    ·rw [if_pos (.inr c5), k2]
     intro h
     exact h3.1 c5 (hs.1 h).1.2.2.2.1
    rw [if_neg (fun h => h.elim c1 c5)]
    have q4 : ∀ x ∈ s.Done, x.Id ≠ y.Message.Id := Classical.byContradiction fun h => c5 (h3.2 h)
    by_cases c2 : s.Done = []
    ·have hz : ¬ ((s.Done.length : Int) > 0) := by rw [c2]; simp
     rw [if_pos (fun h => absurd h hz), if_neg hz]
     simp only [Option.bind_some]
     rw [if_neg hz]
     simp only [Option.bind_some]
     rw [if_neg (fun h => hz h.1), k1 (hs.2 ⟨⟨q.1.1, q.1.2.1, q.1.2.2, q4, by rw [c2]; simp⟩, q.2⟩)]
    ·have hpos : 0 < s.Done.length := List.length_pos_iff.2 c2
     have hp : s.Done.getLast? = some s.Done[s.Done.length - 1] := by
      rw [List.getLast?_eq_getElem?, List.getElem?_eq_getElem (by omega)]
     rw [wr_i (by omega) (by omega), if_pos (fun _ => by omega), if_pos (by omega), m_towncrierref15_Stamp, show ((s.Done.length : Int) - 1).toNat = s.Done.length - 1 by omega, List.getD_eq_getElem?_getD, List.getElem?_eq_getElem (by omega)]
     simp only [Option.getD_some, Option.bind_some]
     rw [if_pos (by omega), less14_eq]
     simp only [Option.bind_some, decide_eq_true_eq]
     by_cases c3 : ltS s.Done[s.Done.length - 1] (stW y)
     ·rw [if_neg (fun h => h.2 c3), k1 (hs.2 ⟨⟨q.1.1, q.1.2.1, q.1.2.2, q4, fun x hx => by rw [hp] at hx; cases hx; exact c3⟩, q.2⟩)]
     ·rw [if_pos ⟨by omega, c3⟩, k2]
      intro h
      exact c3 ((hs.1 h).1.2.2.2.2 _ hp)
  rw [ea]
  by_cases hd : WOk s.Clock s.Done (pre ++ [y])
  ·have := ih (pre ++ [y]) (by rw [hw, ea]) hd
   rw [el] at this
   rw [key _ (fun _ => rfl) (fun h => absurd hd h)]
   exact this
  ·exact ⟨fun h => absurd h.pre hd, fun _ => key _ (fun h => absurd h hd) (fun _ => rfl)⟩
theorem may15 (s : TSkeen) : ∃ b, m_towncrierref15_May s = some b ∧ (b = true ↔ V s) := by
 rw [m_towncrierref15_May]
 by_cases h0 : ((s.Clock < 0 ∨ s.Clock > 1073741824) ∨ (s.Waits.length : Int) > 200) ∨ (s.Done.length : Int) > 200
 ·rw [if_pos h0]
  refine ⟨false, rfl, (by intro h; cases h), fun h => ?_⟩
  have := h.c0; have := h.c1; have := h.lw; have := h.ld; omega
 rw [if_neg h0]
 have d0 : DOk s.Clock [] := ⟨by simp, by simp, by simp⟩
 have hc := ml1 s (by omega) (s.Done.length + 1) 0 (by omega) (by omega) (by rw [List.take_zero]; exact d0)
 have hc : (DOk s.Clock s.Done → m_towncrierref15_May_loop1 s (s.Done.length + 1) 0 = some (.inr ())) ∧ (¬ DOk s.Clock s.Done → m_towncrierref15_May_loop1 s (s.Done.length + 1) 0 = some (.inl false)) := hc
 by_cases hd : DOk s.Clock s.Done
 ·rw [hc.1 hd]
  simp only [Option.bind_some]
  have w0 : WOk s.Clock s.Done [] := ⟨by simp, by simp [IdsUp]⟩
  have hc2 := ml3 s (by omega) s.Waits [] rfl w0
  rw [List.nil_append] at hc2
  have hc2 : (WOk s.Clock s.Done s.Waits → m_towncrierref15_May_loop3 s s.Waits 0 = some (.inr ())) ∧ (¬ WOk s.Clock s.Done s.Waits → m_towncrierref15_May_loop3 s s.Waits 0 = some (.inl false)) := hc2
  by_cases hw : WOk s.Clock s.Done s.Waits
  ·rw [hc2.1 hw]
   simp only [Option.bind_some]
   cases hl : s.Waits with
   | nil =>
    refine ⟨true, by simp, fun _ => ⟨by omega, by omega, by omega, by omega, hd, hw, by rw [hl]; intro y l h; cases h⟩, fun _ => rfl⟩
   | cons y l =>
    obtain ⟨j, hj, h1, h2⟩ := least_eq s.Waits (by omega) hl
    have hp0 : 0 < s.Waits.length := by rw [hl]; simp
    have hz : ¬ ((s.Waits.length : Int) = 0) := by omega
    rw [← hl, if_pos hz, h1]
    simp only [Option.bind_some]
    rw [if_pos (fun _ => ⟨by omega, by omega⟩), Int.toNat_natCast, getW hj, h2]
    refine ⟨_, rfl, fun h => ⟨by omega, by omega, by omega, by omega, hd, hw, ?_⟩, fun h => ?_⟩
    ·intro y' l' e
     rw [hl] at e; cases e
     have hz' : ((s.Waits.length : Int) == 0) = false := by rw [beq_eq_false_iff_ne]; exact hz
     rw [hz'] at h
     simpa using h
    ·rw [h.m y l hl]; simp
  ·rw [hc2.2 hw]
   exact ⟨false, rfl, (by intro h; cases h), fun h => absurd h.w hw⟩
 ·rw [hc.2 hd]
  exact ⟨false, rfl, (by intro h; cases h), fun h => absurd h.d hd⟩
theorem sm15_loop (b : List TMessage) : ∀ (l : List TMessage) (n : Nat), n + l.length = b.length → m_towncrierref15_SameMessages_loop1 b l n = some (if l = b.drop n then .inr () else .inl false)
 | [], n, h => by simp [m_towncrierref15_SameMessages_loop1]; simp at h; omega
 | y :: l, n, h => by
  simp only [List.length_cons] at h
  have hn : n < b.length := by omega
  rw [m_towncrierref15_SameMessages_loop1, if_pos hn, List.getD_eq_getElem?_getD, List.getElem?_eq_getElem hn, sm12_eq, List.drop_eq_getElem_cons hn]
  simp only [Option.getD_some, Option.bind_some, decide_eq_true_eq]
  by_cases he : y = b[n]
  ·rw [if_neg (by simp [he]), sm15_loop b l (n + 1) (by omega), he]
   simp only [List.cons.injEq, true_and]
  ·rw [if_pos he, if_neg (fun h => he (List.cons.inj h).1)]
theorem sm15_self (l : List TMessage) : m_towncrierref15_SameMessages l l = some true := by
 rw [m_towncrierref15_SameMessages, if_neg (by simp), sm15_loop l l 0 (by omega), if_pos (by rw [List.drop_zero])]
 rfl
theorem eqD_loop (b : List TStamp) : ∀ (l : List TStamp) (n : Nat), n + l.length = b.length → m_slices_Equal_Stamp_Stamp_loop1 b l n = some (if l = b.drop n then .inr () else .inl false)
 | [], n, h => by simp [m_slices_Equal_Stamp_Stamp_loop1]; simp at h; omega
 | y :: l, n, h => by
  simp only [List.length_cons] at h
  have hn : n < b.length := by omega
  rw [m_slices_Equal_Stamp_Stamp_loop1, if_pos hn, List.getD_eq_getElem?_getD, List.getElem?_eq_getElem hn, List.drop_eq_getElem_cons hn]
  simp only [Option.getD_some]
  by_cases he : y = b[n]
  ·rw [if_neg (by simp [he]), eqD_loop b l (n + 1) (by omega), he]
   simp only [List.cons.injEq, true_and]
  ·rw [if_pos, if_neg (fun h => he (List.cons.inj h).1)]
   rintro ⟨h1, h2⟩
   apply he
   generalize b[n] = z at *
   obtain ⟨y1, y2⟩ := y
   obtain ⟨z1, z2⟩ := z
   simp at h1 h2 ⊢
   exact ⟨h1, h2⟩
theorem eqD_eq (a b : List TStamp) : m_slices_Equal_Stamp_Stamp a b = some (decide (a = b)) := by
 rw [m_slices_Equal_Stamp_Stamp]
 by_cases h : (a.length : Int) = (b.length : Int)
 ·rw [if_neg (by simpa using h), eqD_loop b a 0 (by omega), List.drop_zero]
  by_cases he : a = b
  ·rw [if_pos he]; simp [he]
  ·rw [if_neg he]; simp [he]
 ·rw [if_pos (by simpa using h), decide_eq_false]
  rintro rfl
  exact h rfl
end Go.Proofs
end
section
namespace Go.Proofs
open Go.Tm
set_option linter.unusedSimpArgs false
set_option linter.unusedVariables false
theorem great_loop : ∀ (l : List TWait) (n : Nat) (k : Int), ∃ r, m_towncrierref15_Great_loop1 l n k = some r := by
 intro l
 induction l with
 | nil => intro n k; exact ⟨k, rfl⟩
 | cons y l ih =>
  intro n k
  rw [m_towncrierref15_Great_loop1_c]
  split
  ·exact ih _ _
  ·exact ⟨k, rfl⟩
theorem great_eq (s : TSkeen) : ∃ b, m_towncrierref15_Great s = some b ∧ (b = false → s.Waits.length ≤ 300 ∧ s.Done.length ≤ 300) := by
 obtain ⟨n, hn⟩ := great_loop s.Waits 0 0
 rw [m_towncrierref15_Great, hn]
 refine ⟨_, rfl, fun h => ?_⟩
 simp at h
 omega
theorem twin15_loop : ∀ (l acc : List TWait), acc.length + l.length < 1000000 → (∀ w ∈ l, w.Message.Groups.length * 8 ≤ 140737488355328) → m_towncrierref15_Twin_loop1 l acc = some (acc ++ l) := by
 intro l
 induction l with
 | nil => intro acc _ _; simp [m_towncrierref15_Twin_loop1_n]
 | cons y l ih =>
  intro acc h hg
  simp only [List.length_cons] at h
  rw [m_towncrierref15_Twin_loop1_c, m_towncrierref15_TwinMessage, if_pos (hg y (List.mem_cons_self ..))]
  simp only [Option.bind_some]
  rw [if_pos (by simp; omega), ih _ (by simp; omega) (fun w hw => hg w (List.mem_cons_of_mem _ hw))]
  simp
theorem twin15s {s : TSkeen} (h1 : s.Waits.length ≤ 1000) (h2 : s.Done.length ≤ 1000) (h3 : ∀ w ∈ s.Waits, w.Message.Groups.length * 8 ≤ 140737488355328) : m_towncrierref15_Twin s = some s := by
 rw [m_towncrierref15_Twin, if_pos (by omega), twin15_loop s.Waits [] (by simp; omega) h3]
 rfl
theorem same15_loop (b : TSkeen) : ∀ (l : List TWait) (n : Nat), n + l.length = b.Waits.length → m_towncrierref15_Same_loop1 b l n = some (if l = b.Waits.drop n then .inr () else .inl false)
 | [], n, h => by simp [m_towncrierref15_Same_loop1]; simp at h; omega
 | y :: l, n, h => by
  simp only [List.length_cons] at h
  have hn : n < b.Waits.length := by omega
  rw [m_towncrierref15_Same_loop1, if_pos hn, getW hn, sm12_eq, List.drop_eq_getElem_cons hn]
  simp only [Option.bind_some, decide_eq_true_eq]
  by_cases he : y = b.Waits[n]
  ·rw [if_neg (by simp [he]), same15_loop b l (n + 1) (by omega), he]
   simp only [List.cons.injEq, true_and]
  ·rw [if_pos, if_neg (fun h => he (List.cons.inj h).1)]
   apply Decidable.byContradiction
   intro hc
   apply he
   generalize b.Waits[n] = z at hc ⊢
   obtain ⟨y1, y2, y3⟩ := y
   obtain ⟨z1, z2, z3⟩ := z
   simp at hc ⊢
   exact ⟨hc.1.1, hc.1.2, hc.2⟩
theorem same15_eq (a b : TSkeen) : m_towncrierref15_Same a b = some (decide (a = b)) := by
 obtain ⟨a1, a2, a3⟩ := a
 rw [m_towncrierref15_Same]
 by_cases h : (¬ (a1 = b.Clock)) ∨ (¬ ((a2.length : Int) = (b.Waits.length : Int)))
 ·simp only
  rw [if_neg (fun k => k h)]
  simp only [Option.bind_some]
  rw [if_pos (.inl h), decide_eq_false]
  rintro rfl
  simp at h
 ·simp only
  rw [if_pos h, ss_eq]
  simp only [Option.bind_some, decide_eq_true_eq]
  have hlen : 0 + a2.length = b.Waits.length := by omega
  by_cases hd : a3 = b.Done
  ·rw [if_neg (fun k => k.elim h fun k => k hd), same15_loop b a2 0 hlen, List.drop_zero]
   obtain ⟨b1, b2, b3⟩ := b
   simp only at h hd ⊢
   by_cases hw : a2 = b2
   ·rw [if_pos hw]
    have : a1 = b1 := by omega
    simp [this, hw, hd]
   ·rw [if_neg hw]; simp [hw]
  ·rw [if_pos (.inr hd), decide_eq_false]
   rintro rfl
   exact hd rfl
theorem sw_eq (a b : TWait) : m_skeen_Same_1 a b = some (decide (a = b)) := by
 rw [m_skeen_Same_1, sm_eq]
 obtain ⟨a1, a2, a3⟩ := a
 obtain ⟨b1, b2, b3⟩ := b
 simp only [Option.bind_some, TWait.mk.injEq]
 congr 1
 rw [Bool.eq_iff_iff]
 simp [and_assoc]
theorem eqW_loop (b : List TWait) : ∀ (l : List TWait) (n : Nat), n + l.length = b.length → m_slices_EqualFunc_Wait_Wait_Wait_Wait_loop1 b m_skeen_Same_1 l n = some (if l = b.drop n then .inr () else .inl false)
 | [], n, h => by simp [m_slices_EqualFunc_Wait_Wait_Wait_Wait_loop1]; simp at h; omega
 | y :: l, n, h => by
  simp only [List.length_cons] at h
  have hn : n < b.length := by omega
  rw [m_slices_EqualFunc_Wait_Wait_Wait_Wait_loop1, if_pos hn, getW hn, sw_eq, List.drop_eq_getElem_cons hn]
  simp only [Option.bind_some, decide_eq_true_eq]
  by_cases he : y = b[n]
  ·rw [if_neg (by simp [he]), eqW_loop b l (n + 1) (by omega), he]
   simp only [List.cons.injEq, true_and]
  ·rw [if_pos he, if_neg (fun h => he (List.cons.inj h).1)]
theorem eqW_eq (a b : List TWait) : m_slices_EqualFunc_Wait_Wait_Wait_Wait a b m_skeen_Same_1 = some (decide (a = b)) := by
 rw [m_slices_EqualFunc_Wait_Wait_Wait_Wait]
 by_cases h : (a.length : Int) = (b.length : Int)
 ·rw [if_neg (by simpa using h), eqW_loop b a 0 (by omega), List.drop_zero]
  by_cases he : a = b
  ·rw [if_pos he]; simp [he]
  ·rw [if_neg he]; simp [he]
 ·rw [if_pos (by simpa using h), decide_eq_false]
  rintro rfl
  exact h rfl
theorem sks_eq (a b : TSkeen) : m_skeen_Same a b = some (decide (a = b)) := by
 obtain ⟨a1, a2, a3⟩ := a
 obtain ⟨b1, b2, b3⟩ := b
 rw [m_skeen_Same]
 by_cases h1 : a1 = b1
 ·by_cases h3 : a3 = b3
  ·by_cases h2 : a2 = b2
   ·simp [h1, h2, h3, eqD_eq, eqW_eq]
   ·simp [h1, h2, h3, eqD_eq, eqW_eq]
  ·simp [h1, h3, eqD_eq]
 ·simp [h1]
theorem wr_zero {a b : Int} (ha : IdOk a) (hb : -9223372036854775808 ≤ b ∧ b ≤ 9223372036854775807) : wr .i64 (a - b) = 0 → a = b := by
 intro h
 unfold IdOk at ha
 by_cases h1 : a - b ≤ 9223372036854775807
 ·rw [wr_i (by omega) h1] at h; omega
 ·unfold wr at h
  simp [IntKind.wrap, IntKind.signed, IntKind.bits] at h
  split at h <;> omega
theorem bsx_loop (l : List TWait) (id : Int) (hl : l.length < 1000000) : ∀ (fu i j : Nat), j - i < fu → i ≤ j → j ≤ l.length →
  ∃ k : Nat, k ≤ l.length ∧ m_slices_BinarySearchFunc_Wait_Wait_int_loop1 l id m_skeen_clock_find_1 fu (i : Int) (j : Int) = some (k : Int) := by
 intro fu
 induction fu with
 | zero => intro i j h; omega
 | succ fu ih =>
  intro i j h h1 h4
  rw [m_slices_BinarySearchFunc_Wait_Wait_int_loop1]
  by_cases hij : i < j
  ·have hm : (i + j) / 2 < l.length := by omega
   have e : wr .i64 ((((i + j) / 2 : Nat) : Int) + 1) = (((i + j) / 2 + 1 : Nat) : Int) := wr_eq _ _ (by show (-9223372036854775808 : Int) ≤ _; omega) (by show _ ≤ (9223372036854775807 : Int); omega)
   rw [if_pos (by omega), half_eq i j (by omega), if_pos ⟨by omega, by omega⟩, e, m_skeen_clock_find_1]
   simp only [Option.bind_some]
   split
   ·exact ih _ _ (by omega) (by omega) h4
   ·exact ih _ _ (by omega) (by omega) (by omega)
  ·rw [if_neg (by omega)]
   exact ⟨i, by omega, rfl⟩
theorem find_no (c : Tskeen_clock) (id : Int) (hl : c.Skeen.Waits.length < 1000000) (hi : ∀ w ∈ c.Skeen.Waits, IdOk w.Message.Id) (h2 : ¬ IdOk id) (hr : -9223372036854775808 ≤ id ∧ id ≤ 9223372036854775807) :
  ∃ k : Int, m_skeen_clock_find c id = some (k, false) := by
 obtain ⟨⟨ck, l, dn⟩⟩ := c
 simp only at hl hi ⊢
 obtain ⟨k, hk, hb⟩ := bsx_loop l id hl (l.length + 1) 0 l.length (by omega) (by omega) (by omega)
 have e0 : ((0 : Nat) : Int) = 0 := rfl
 rw [e0] at hb
 rw [m_skeen_clock_find, m_slices_BinarySearchFunc_Wait_Wait_int]
 simp only
 rw [hb]
 simp only [Option.bind_some]
 rw [if_pos (by intro h; omega)]
 by_cases hc : k < l.length
 ·rw [if_pos (by omega), m_skeen_clock_find_1, Int.toNat_natCast, getW hc]
  simp only [Option.bind_some]
  refine ⟨(k : Int), ?_⟩
  have hne : wr .i64 (l[k].Message.Id - id) ≠ 0 := fun h => h2 (by
   have := wr_zero (hi _ (List.getElem_mem hc)) hr h
   rw [← this]; exact hi _ (List.getElem_mem hc))
  have : (wr .i64 (l[k].Message.Id - id) == 0) = false := by simpa using hne
  rw [this, Bool.and_false]
 ·rw [if_neg (by omega)]
  refine ⟨(k : Int), ?_⟩
  simp only [Option.bind_some]
  rw [decide_eq_false (by omega), Bool.false_and]
theorem local_eq (s : TSkeen) (id : Int) (hr : -9223372036854775808 ≤ id ∧ id ≤ 9223372036854775807) (hch : m_skeen_Check s = some 0 ∨ m_skeen_Check s = some 8) : ∃ r, m_skeen_Local s id = some r ∧ m_towncrierref15_Local s id = some r := by
 obtain ⟨b, hb, hi⟩ := may15 s
 obtain ⟨e, he, hi2⟩ := sk_check s
 rw [m_skeen_Local, m_towncrierref15_Local, hb]
 by_cases hv : V s
 ·rw [check_ok hv]
  have hb1 : b = true := hi.2 hv
  subst hb1
  simp only [Option.bind_some, not_true_eq_false, if_false]
  have hj := hv.j
  have hlw := hv.lw
  rw [waits_eq s id hj.w.2]
  simp only [Option.bind_some]
  by_cases hid : IdOk id
  ·rw [find_eq ⟨s⟩ id (by show s.Waits.length < 1000000; omega) hj.w.2 hj.ids hid]
   simp only [Option.bind_some, decide_eq_true_eq]
   by_cases hx : ∃ w ∈ s.Waits, w.Message.Id = id
   ·obtain ⟨h3, h4⟩ := (plc_at id s.Waits hj.w.2).1 hx
    have hx' : ∃ w ∈ (⟨s⟩ : Tskeen_clock).Skeen.Waits, w.Message.Id = id := hx
    have hc : 0 ≤ ((plc id s.Waits : Nat) : Int) ∧ ((plc id s.Waits : Nat) : Int) < (s.Waits.length : Int) := ⟨by omega, by omega⟩
    have h0 : ¬ ((plc id s.Waits : Nat) : Int) < 0 := by omega
    rw [if_neg (fun h => h hx'), if_pos hx, if_neg h0, if_pos hc]
    exact ⟨_, rfl, rfl⟩
   ·have hx' : ¬ ∃ w ∈ (⟨s⟩ : Tskeen_clock).Skeen.Waits, w.Message.Id = id := hx
    rw [if_pos hx', if_neg hx]
    exact ⟨_, rfl, rfl⟩
  ·obtain ⟨k, hk⟩ := find_no ⟨s⟩ id (by show s.Waits.length < 1000000; omega) hj.ids hid hr
   rw [hk]
   have hx : ¬ ∃ w ∈ s.Waits, w.Message.Id = id := by rintro ⟨w, hw, rfl⟩; exact hid (hj.ids w hw)
   rw [if_neg hx]
   exact ⟨_, rfl, rfl⟩
 ·have hb0 : ¬ b = true := fun h => hv (hi.1 h)
  have he0 : ¬ e = 0 := fun h => hv (hi2.1 h)
  have he8 : e = 8 := by
   rcases hch with h | h
   ·rw [he] at h; exact absurd (Option.some.inj h) he0
   ·rw [he] at h; exact Option.some.inj h
  subst he8
  rw [he]
  simp only [Option.bind_some, hb0, not_false_eq_true, if_true]
  exact ⟨_, rfl, rfl⟩
theorem check8 (s : TSkeen) : m_skeen_Check s = some 0 ∨ m_skeen_Check s = some 8 := by
 rw [m_skeen_Check]
 by_cases h0 : ((s.Clock < 0 ∨ s.Clock > 1073741824) ∨ (s.Waits.length : Int) > 200) ∨ (s.Done.length : Int) > 200
 ·rw [if_pos h0]; exact .inr rfl
 rw [if_neg h0]
 have d0 : DOk s.Clock [] := ⟨by simp, by simp, by simp⟩
 have hc := ck1 s s.Done [] [] 0 0 d0 (by intro k; simp [mget]) (by simp)
 rw [List.nil_append] at hc
 by_cases hd : DOk s.Clock s.Done
 ·obtain ⟨m, a, b, h1, h2, h3⟩ := hc.1 hd
  have h1 : m_skeen_Check_loop1 s s.Done 0 [] 0 0 = _ := h1
  rw [h1]
  simp only [Option.bind_some]
  have w0 : WOk s.Clock s.Done [] := ⟨by simp, by simp [IdsUp]⟩
  have hc2 := ck2 s m a b h2 h3 s.Waits [] rfl w0
  rw [List.nil_append] at hc2
  by_cases hw : WOk s.Clock s.Done s.Waits
  ·have h4 : m_skeen_Check_loop2 s m a b s.Waits 0 = _ := hc2.1 hw
   rw [h4]
   simp only [Option.bind_some]
   cases hl : s.Waits with
   | nil => left; simp
   | cons y l =>
    have hlen : (y :: l).length ≤ 200 := by rw [← hl]; omega
    rw [min_eq y l (by simp at hlen; omega)]
    have hp : ((y :: l).length : Int) > 0 := by rw [List.length_cons]; omega
    rw [if_pos hp]
    simp only [Option.bind_some]
    split
    ·exact .inr rfl
    ·exact .inl rfl
  ·have h4 : m_skeen_Check_loop2 s m a b s.Waits 0 = _ := hc2.2 hw
   rw [h4]; exact .inr rfl
 ·have h1 : m_skeen_Check_loop1 s s.Done 0 [] 0 0 = _ := hc.2 hd
  rw [h1]; exact .inr rfl
theorem check_may (s : TSkeen) : ∃ e b, m_skeen_Check s = some e ∧ m_towncrierref15_May s = some b ∧ (e == 0) = b ∧ (e = 0 ∨ e = 8) ∧ (b = true ↔ V s) := by
 obtain ⟨b, hb, hi⟩ := may15 s
 obtain ⟨e, he, hi2⟩ := sk_check s
 refine ⟨e, b, he, hb, ?_, ?_, hi⟩
 ·rw [Bool.eq_iff_iff, hi, ← hi2]; simp
 ·rcases check8 s with h | h <;> rw [he] at h <;> have := Option.some.inj h <;> omega
theorem cmd12 (c : TCommand) : ∃ e b, m_command_Check c = some e ∧ m_towncrierref12_May c = some b ∧ (e = 0 ∧ b = true ∨ e = 120 ∧ b = false) := by
 obtain ⟨e, he, hi⟩ := cmd_iff c
 obtain ⟨b, hb, hi2⟩ := may12_iff c
 obtain ⟨p, ok, hp, _⟩ := plain_tot c
 have h := check_of hp
 rw [he] at h
 have h := Option.some.inj h
 refine ⟨e, b, he, hb, ?_⟩
 by_cases hc : COk c
 ·exact .inl ⟨hi.2 hc, hi2.2 hc⟩
 ·right
  have h0 : ¬ e = 0 := fun k => hc (hi.1 k)
  have hb0 : b = false := by cases b with | true => exact absurd (hi2.1 rfl) hc | false => rfl
  refine ⟨?_, hb0⟩
  split at h
  ·exact absurd h h0
  ·exact h
theorem apply_eq (s : TSkeen) (g : Int) (c : TCommand) : ∃ r, m_skeen_Apply s g c = some r ∧ m_towncrierref15_Apply s g c = some r := by
 obtain ⟨e, b, he, hb, heb, h08, hbv⟩ := check_may s
 by_cases hv : V s
 ·have hb1 := hbv.2 hv
  subst hb1
  have he0 : e = 0 := by simpa using heb
  subst he0
  by_cases hg : g < 0 ∨ g ≥ 4
  ·refine ⟨(⟨0, [], []⟩, [], 2), ?_, ?_⟩
   ·rw [m_skeen_Apply, he]
    simp only [Option.bind_some, not_true_eq_false, if_false]
    rw [if_pos hg]
   ·rw [m_towncrierref15_Apply, hb]
    simp only [Option.bind_some, not_true_eq_false, if_false]
    rw [if_pos hg]
  ·obtain ⟨e2, b2, he2, hb2, h2⟩ := cmd12 c
   rcases h2 with ⟨rfl, rfl⟩ | ⟨rfl, rfl⟩
   ·obtain ⟨x, m, ok, hp, ha⟩ := put_eq s g c hv (by omega) he2
    refine ⟨_, ha, ?_⟩
    have h1 := hv.lw
    have h2 := hv.ld
    rw [m_towncrierref15_Apply, hb]
    simp only [Option.bind_some, not_true_eq_false, if_false]
    rw [if_neg hg, hb2]
    simp only [Option.bind_some, not_true_eq_false, if_false]
    rw [twin15s (by omega) (by omega) (fun w hw => by have := (hv.w.1 w hw).1.groups; omega)]
    simp only [Option.bind_some]
    rw [hp]
    simp only [Option.bind_some]
    cases ok with
    | true => rfl
    | false => rfl
   ·refine ⟨(⟨0, [], []⟩, [], 120), ?_, ?_⟩
    ·rw [m_skeen_Apply, he]
     simp only [Option.bind_some, not_true_eq_false, if_false]
     rw [if_neg hg, he2]
     rfl
    ·rw [m_towncrierref15_Apply, hb]
     simp only [Option.bind_some, not_true_eq_false, if_false]
     rw [if_neg hg, hb2]
     rfl
 ·have hb0 : b = false := by cases b with | true => exact absurd (hbv.1 rfl) hv | false => rfl
  subst hb0
  have he8 : e = 8 := by
   rcases h08 with h | h
   ·subst h; simp at heb
   ·exact h
  subst he8
  refine ⟨(⟨0, [], []⟩, [], 8), ?_, ?_⟩
  ·rw [m_skeen_Apply, he]; rfl
  ·rw [m_towncrierref15_Apply, hb]; rfl
theorem skeendoes_law (a0 a1 : TSkeen) (a2 : Int) (a3 : TCommand) (a4 : Int) (hr : -9223372036854775808 ≤ a4 ∧ a4 ≤ 9223372036854775807) (h3 : ∀ w ∈ a0.Waits, w.Message.Groups.length * 8 ≤ 140737488355328) :
  m_towncrierlaw15_SkeenDoes a0 a1 a2 a3 a4 = some true := by
 obtain ⟨g0, hg0, hs0⟩ := great_eq a0
 obtain ⟨g1, hg1, _⟩ := great_eq a1
 rw [m_towncrierlaw15_SkeenDoes, hg0, hg1]
 simp only [Option.bind_some]
 cases g0 with
 | true => simp
 | false =>
 cases g1 with
 | true => simp
 | false =>
 simp only [Bool.false_eq_true, not_false_eq_true, if_true, Option.bind_some, false_or]
 by_cases hbig : (((a3.Message.Groups.length : Int) > 1000) ∨ ((wr .i64 ((a3.Message.Key.length : Int) + (a3.Message.Body.length : Int))) > 5000)) ∨ ((a3.Members.length : Int) > 1000)
 ·rw [if_pos hbig]
 rw [if_neg hbig]
 obtain ⟨h1, h2⟩ := hs0 rfl
 have t12 : m_towncrierref12_Twin a3 = some a3 := by
  rw [m_towncrierref12_Twin, if_pos (by omega), if_pos (by omega)]
 obtain ⟨r, hr1, hr2⟩ := apply_eq a0 a2 a3
 obtain ⟨q, hq1, hq2⟩ := local_eq a0 a4 hr (check8 a0)
 obtain ⟨e, b, he, hb, heb, _, _⟩ := check_may a0
 rw [twin15s (by omega) (by omega) h3, t12]
 simp only [Option.bind_some]
 rw [hr1, hr2, hq1, hq2, twin_sk a0 (by omega) (by omega) h3]
 simp only [Option.bind_some, same15_eq, sm15_self, he, hb, sks_eq, m_skeen_New, same12_eq]
 subst heb
 simp
end Go.Proofs
end
section
namespace Go.Tm
open Go.RowKit Go.WideShapes Go.ChangeShapes
def aggT (P : Program) (t : TypeId) : Bool := match P.underlying t with
 | some (.struct _) => true
 | _ => false
def mkD (P : Program) (t : TypeId) (l : List D) : D := bif aggT P t then .agg l else l.headD .undef
def fieldsIn (P : Program) (chk : TypeId → Bool) : Nat → List Field → Nat → Bool
 | off, [], tot => Nat.beq off tot
 | off, f :: fs, tot => Nat.beq f.offset off && chk f.type && fieldsIn P chk (off + P.cellsOf f.type) fs tot
def dataT (P : Program) : Nat → TypeId → Bool
 | 0, _ => false
 | n + 1, t => match P.underlying t with
  | some .bool => true
  | some (.int _) => true
  | some .string => true
  | some (.slice e) => dataT P n e && Nat.blt 0 (P.cellsOf e) && (aggT P e || Nat.beq (P.cellsOf e) 1)
  | some (.struct fs) => fieldsIn P (dataT P n) 0 fs.toList (P.cellsOf t)
  | _ => false
def typedL (p : TypeId → List D → Prop) : List TypeId → List D → Prop
 | [], l => l = []
 | t :: ts, l => ∃ l1 l2, l = l1 ++ l2 ∧ p t l1 ∧ typedL p ts l2
theorem reps_append' {C : Cx} : ∀ {l1 l2 : List D} {v1 v2 : List Value}, reps C l1 v1 → reps C l2 v2 → reps C (l1 ++ l2) (v1 ++ v2)
 | [], l2, v1, v2, h1, h2 => by simp only [reps] at h1; subst h1; simpa using h2
 | d :: ds, l2, v1, v2, h1, h2 => by
  simp only [reps] at h1
  obtain ⟨v, vs, rfl, hd, h1⟩ := h1
  simp only [List.cons_append, reps]
  exact ⟨v, vs ++ v2, rfl, hd, reps_append' h1 h2⟩
theorem elems_of {C : Cx} {b s : Nat} {p : List D → Prop} {f : List D → D} : ∀ (n o : Nat), (∀ i, i < n → ∃ l v, p l ∧ rep C (f l) v ∧ v.cells.size = s ∧ v.cells.toList.all (·.oneCell') = true ∧ C.w.rangeAt b (o + i * s) v.cells.toList) →
  ∃ xs : List (List D), xs.length = n ∧ elems C (xs.map f) b o s ∧ ∀ x ∈ xs, p x
 | 0, o, _ => ⟨[], rfl, by simp only [List.map_nil, elems], by simp⟩
 | n + 1, o, h => by
  obtain ⟨l, v, h1, h2, h3, h4, h5⟩ := h 0 (by omega)
  obtain ⟨xs, g1, g2, g3⟩ := elems_of n (o + s) (fun i hi => by
   obtain ⟨l, v, h1, h2, h3, h4, h5⟩ := h (i + 1) (by omega)
   exact ⟨l, v, h1, h2, h3, h4, by rwa [show o + (i + 1) * s = o + s + i * s by rw [Nat.add_mul]; omega] at h5⟩)
  refine ⟨l :: xs, by simp [g1], ?_, by simpa using ⟨h1, g3⟩⟩
  simp only [List.map_cons, elems]
  exact ⟨⟨v, h2, h3, h4, by simpa using h5⟩, g2⟩
theorem fieldsIn_le {P : Program} {chk : TypeId → Bool} : ∀ (fs : List Field) (off tot : Nat), fieldsIn P chk off fs tot = true → off ≤ tot
 | [], off, tot, h => Nat.le_of_eq (Nat.eq_of_beq_eq_true h)
 | f :: fs, off, tot, h => by
  simp only [fieldsIn, Bool.and_eq_true] at h
  have := fieldsIn_le fs _ _ h.2
  omega
section
variable {H : Type} {enc : TypeId × Value → H} {P : Program} {w : World} {sp : Nat → Bool}
theorem trodAll_stays (hl : laidOutB P = true) {W W' : World} (hB : Below W.heap.size W W') {sp' : Nat → Bool} : ∀ {ts : List TypeId} {vs : List Value} {ds : List (DataW H)} {ps : List MemPlace}, (ts.all fun t => P.readableRec t && Nat.blt t P.types.size) = true →
  DataW.TrodAll enc P W 0 (fun _ => true) true ts vs ds ps → (∀ p ∈ ps, p.block < W.heap.size ∧ sp' p.block = true) → DataW.TrodAll enc P W' 0 sp' true ts vs ds ps
 | [], [], [], _, _, h, _ => h
 | t :: ts, v :: vs, d :: ds, ps, hr, h, hp => by
  obtain ⟨p, q, h1, h2, rfl⟩ := h
  simp only [List.all_cons, Bool.and_eq_true] at hr
  refine ⟨p, q, WideElems.Trod_stays hl hr.1.1 (Nat.le_of_ble_eq_true hr.1.2) h1 (fun x hx => hB.same (hp x (by simp [hx])).1) (fun x hx => (hp x (by simp [hx])).2), ?_, rfl⟩
  exact trodAll_stays hl hB hr.2 h2 fun x hx => hp x (by simp [hx])
 | [], _ :: _, _, _, _, h, _ => h.elim
 | [], [], _ :: _, _, _, h, _ => h.elim
 | _ :: _, [], _, _, _, h, _ => h.elim
 | _ :: _, _ :: _, [], _, _, h, _ => h.elim
end
section
variable {P : Program} {n : Nat} {t : TypeId} {l : List D}
theorem mkD_one {d : D} (ha : aggT P t = false) : mkD P t [d] = d := by simp only [mkD, ha, cond_false, List.headD_cons]
theorem mkD_agg (ha : aggT P t = true) : mkD P t l = .agg l := by simp only [mkD, ha, cond_true]
theorem typedL_cons {p : TypeId → List D → Prop} {ts : List TypeId} (h : typedL p (t :: ts) l) : ∃ l1 l2, l = l1 ++ l2 ∧ p t l1 ∧ typedL p ts l2 := h
theorem typedL_nil {p : TypeId → List D → Prop} (h : typedL p [] l) : l = [] := h
end
end Go.Tm
end
section
namespace Go.Tm
open Go.RowKit Go.WideShapes
def typedS (P : Program) : Nat → TypeId → List D → Prop
 | 0, _, _ => False
 | n + 1, t, l => match P.underlying t with
  | some .bool => ∃ b, l = [.bool b]
  | some (.int k) => ∃ m, l = [.int k m]
  | some .string => ∃ s, l = [.str s]
  | some (.slice e) => ∃ xs : List (List D), l = [.imm (P.cellsOf e) (xs.map (mkD P e)) 4] ∧ xs.length * P.bytesOf e ≤ 140737488355328 ∧ ∀ x ∈ xs, typedS P n e x
  | some (.struct fs) => typedL (typedS P n) (fs.toList.map (·.type)) l
  | _ => False
section
variable {H : Type} {enc : TypeId × Value → H} {P : Program} {w : World} {sp : Nat → Bool}
theorem weightsAll_mem {e : TypeId} {k : Nat} : ∀ {l : List (DataW H)} {d : DataW H}, d ∈ l → k ∈ DataW.weights P e d → k ∈ DataW.weightsAll P e l
 | x :: l, d, hd, hk => by
  simp only [DataW.weightsAll, List.mem_append]
  rcases List.mem_cons.1 hd with rfl | hd
  ·exact .inl hk
  ·exact .inr (weightsAll_mem hd hk)
theorem weightsEach_pre {k : Nat} : ∀ {ts vt : List TypeId} {ds gs : List (DataW H)}, k ∈ DataW.weightsEach P ts ds → k ∈ DataW.weightsEach P (ts ++ vt) (ds ++ gs)
 | [], _, _, _, h => by simp [DataW.weightsEach] at h
 | _ :: _, _, [], _, h => by simp [DataW.weightsEach] at h
 | t :: ts, vt, d :: ds, gs, h => by
  simp only [DataW.weightsEach, List.cons_append, List.mem_append] at h ⊢
  exact h.imp id weightsEach_pre
theorem trod_repsS : ∀ (n fuel : Nat) (t : TypeId) (cs : List Value) (x : DataW H × List MemPlace) (C : Cx), C.w = w → (∀ b, ¬ C.M b) → (∀ b, C.Z b) → dataT P n t = true → DataW.trod enc P w 0 sp true fuel t cs = some x → (∀ k ∈ DataW.weights P t x.1, k ≤ reachBytes) →
  ∃ l, reps C l cs ∧ typedS P n t l ∧ cs.all (·.oneCell') = true
 | 0, _, _, _, _, _, _, _, _, h, _, _ => by simp [dataT] at h
 | n + 1, fuel, t, cs, x, C, hw, hM, hlo, hd, h, hwt => by
  unfold dataT at hd
  split at hd
  ·rename_i ht
   simp only [typedS, ht]
   obtain ⟨b, rfl, _⟩ := DataW.trod_bool ht h
   exact ⟨[.bool b], by simp only [reps, rep]; exact ⟨_, _, rfl, rfl, rfl⟩, ⟨b, rfl⟩, rfl⟩
  ·rename_i k ht
   simp only [typedS, ht]
   obtain ⟨m, rfl, _, hwf⟩ := DataW.trod_int ht h
   simp only [Lit.wf, Bool.and_eq_true, decide_eq_true_eq] at hwf
   exact ⟨[.int k m], by simp only [reps, rep]; exact ⟨_, _, rfl, ⟨rfl, hwf⟩, rfl⟩, ⟨m, rfl⟩, rfl⟩
  ·rename_i ht
   simp only [typedS, ht]
   obtain ⟨s, rfl, _, hs⟩ := DataW.trod_string ht h
   refine ⟨[.str s.data.toList], ?_, ⟨_, rfl⟩, rfl⟩
   simp only [reps, rep]
   refine ⟨_, _, rfl, ⟨by rw [Array.toArray_toList], ?_⟩, rfl⟩
   have h1 : s.data.toList.length = s.size := by rw [Array.length_toList]; rfl
   have h2 : s.size ≤ 9223372036854775807 := hs
   rw [h1]; omega
  ·rename_i e ht
   simp only [typedS, ht]
   simp only [Bool.and_eq_true, Bool.or_eq_true] at hd
   obtain ⟨⟨hde, hpos⟩, hone⟩ := hd
   have hpos : 0 < P.cellsOf e := Nat.le_of_ble_eq_true hpos
   rcases DataW.trod_slice ht h with ⟨rfl, _⟩ | ⟨a, len, cap, els, rest, m, _, rfl, rfl, hb, hl, hc, hlen, hel, _⟩
   ·refine ⟨[.imm (P.cellsOf e) (([] : List (List D)).map (mkD P e)) 4], ?_, ⟨[], rfl, by simp, fun _ h => by cases h⟩, rfl⟩
    simp only [reps, rep, List.map_nil, List.length_nil]
    exact ⟨_, _, rfl, ⟨none, 0, rfl, by simp, by simp, by simp, by simp, by simp, by simp, by simp, .inl trivial⟩, rfl⟩
   ·have hc : cap ≤ 9223372036854775807 := hc
    have key : ∀ i, i < len → ∃ l v, typedS P n e l ∧ rep (C.at C.Z) (mkD P e l) v ∧ v.cells.size = P.cellsOf e ∧ v.cells.toList.all (·.oneCell') = true ∧ (i = 0 → a.spot = none) ∧ a.block < w.heap.size ∧ w.rangeAt a.block (a.off + i * P.cellsOf e) v.cells.toList := by
     intro i hi
     have hi' := hel i hi
     have hsome : els[i]? = some els[i] := List.getElem?_eq_getElem (by omega)
     rw [hsome, Option.bind_eq_some_iff] at hi'
     obtain ⟨cs', hcs, htr⟩ := hi'
     obtain ⟨_, hclen, hcell⟩ := World.cells?_some hcs
     obtain ⟨l, g1, g2, g3⟩ := trod_repsS n m e cs' _ (C.at C.Z) (by simpa [Cx.at] using hw) (by simpa [Cx.at] using hM) (by simpa [Cx.at] using hlo) hde htr (fun k hk => hwt k (by
      simp only [DataW.weights, ht, List.mem_cons, List.mem_append]
      exact .inr (.inl (weightsAll_mem (List.mem_map_of_mem (List.getElem_mem _)) hk))))
     have h0 := hcell 0 hpos
     have hc0 : cs'[0]? = some cs'[0] := List.getElem?_eq_getElem (by omega)
     rw [hc0] at h0
     have hadd : ∀ j, ((a.add (i * P.cellsOf e)).add j).block = a.block := by intro j; unfold Addr.add; split <;> split <;> rfl
     have hblk : a.block < w.heap.size ∧ ((a.add (i * P.cellsOf e)).add 0).spot = none := by
      unfold World.cell? at h0
      rw [hadd] at h0
      split at h0
      ·rename_i c T fz hh
       have := (Array.getElem?_eq_some_iff.1 hh).1
       split at h0
       ·cases h0
       ·rename_i hs; exact ⟨this, by simpa using hs⟩
      ·cases h0
     have hspot0 : (a.add (i * P.cellsOf e)).spot = none := by simpa [Addr.add] using hblk.2
     have hae : ∀ j, j < P.cellsOf e → (a.add (i * P.cellsOf e)).add j = ⟨a.block, a.off + i * P.cellsOf e + j, none⟩ := by
      intro j _
      unfold Addr.add at hspot0 ⊢
      split at hspot0
      ·rename_i hz
       simp only [hz, if_true, Nat.add_zero]
       split
       ·rename_i hj; subst hj; cases a; simp_all
       ·rfl
      ·rename_i hz
       simp only [hz, if_false]
       split
       ·rename_i hj; subst hj; rfl
       ·rfl
     have hrange : w.rangeAt a.block (a.off + i * P.cellsOf e) cs' := by
      intro j v hj
      have hjl := (List.getElem?_eq_some_iff.1 hj).1
      have := hcell j (by omega)
      rw [hae j (by omega), hj] at this
      exact this
     cases hag : aggT P e with
     | true =>
      refine ⟨l, .agg cs'.toArray, g2, ?_, by simp [Value.cells, hclen], by simpa [Value.cells] using g3, ?_, hblk.1, by simpa [Value.cells] using hrange⟩
      ·simp only [mkD, hag, cond_true, rep]
       exact ⟨cs', rfl, g1⟩
      ·rintro rfl; simpa [Addr.add] using hspot0
     | false =>
      rw [hag] at hone
      have h1 : P.cellsOf e = 1 := by simpa using hone
      rw [h1] at hclen
      obtain ⟨v, rfl⟩ := List.length_eq_one_iff.1 hclen
      obtain ⟨d, rfl⟩ : ∃ d, l = [d] := List.length_eq_one_iff.1 ((reps_length _ _ g1).symm.trans rfl)
      simp only [reps] at g1
      obtain ⟨v', vs', hv, hd, rfl⟩ := g1
      obtain rfl : v = v' := (List.cons.inj hv).1
      have hcv : v.cells = #[v] := by
       simp only [List.all_cons, List.all_nil, Bool.and_true] at g3
       cases v <;> first | rfl | simp [Value.oneCell'] at g3
      refine ⟨[d], v, g2, by simpa [mkD, hag] using hd, by simp [hcv, h1], by simpa [hcv] using g3, ?_, hblk.1, by simpa [hcv] using hrange⟩
      rintro rfl; simpa [Addr.add] using hspot0
    obtain ⟨xs, g1, g2, g3⟩ := elems_of (C := C.at C.Z) (b := a.block) (s := P.cellsOf e) (p := typedS P n e) (f := mkD P e) len a.off (fun i hi => by
     obtain ⟨l, v, h1, h2, h3, h4, _, _, h5⟩ := key i hi
     exact ⟨l, v, h1, h2, h3, h4, by subst hw; exact h5⟩)
    refine ⟨[.imm (P.cellsOf e) (xs.map (mkD P e)) 4], ?_, ⟨xs, rfl, ?_, g3⟩, rfl⟩
    case refine_2 =>
     have h9 := hwt ((els.length + rest.length) * P.bytesOf e) (by simp [DataW.weights, ht])
     have h8 : xs.length * P.bytesOf e ≤ (els.length + rest.length) * P.bytesOf e := Nat.mul_le_mul_right _ (by omega)
     have h7 := reachBytes_lt
     omega
    simp only [reps, rep, List.length_map, g1]
    refine ⟨_, _, rfl, ⟨some a, cap, rfl, hl, by omega, by simp, by simp, by simp, by simp, by simp, ?_⟩, rfl⟩
    rcases Nat.eq_zero_or_pos len with h0 | h0
    ·left; subst h0; have := List.length_eq_zero_iff.1 g1; simp [this]
    ·right
     obtain ⟨_, _, _, _, _, _, k1, k2, _⟩ := key 0 h0
     intro Z hZ
     have hZ : C.Z = Z := by simpa [Cx.zone] using hZ
     subst hZ
     exact ⟨a, rfl, k1 rfl, hM _, hlo _, by exact ⟨by rw [hw]; exact k2, fun h => by simp at h⟩, g2⟩
  ·rename_i fs ht
   simp only [typedS, ht]
   obtain ⟨xs, m, _, rfl, hcl, hxl, hf⟩ := DataW.trod_struct ht h
   have key : ∀ (gs : List Field) (k : Nat), (∀ i f, gs[i]? = some f → fs[k + i]? = some f) → ∀ off, fieldsIn P (dataT P n) off gs (P.cellsOf t) = true → off ≤ cs.length → 
     ∃ l, reps C l (cs.drop off) ∧ typedL (typedS P n) (gs.map (·.type)) l ∧ (cs.drop off).all (·.oneCell') = true := by
    intro gs
    induction gs with
    | nil =>
     intro k _ off ho _
     simp only [fieldsIn] at ho
     have ho := Nat.eq_of_beq_eq_true ho
     have : cs.drop off = [] := by rw [ho, ← hcl]; simp
     rw [this]
     exact ⟨[], by simp only [reps], rfl, rfl⟩
    | cons f gs ih =>
     intro k hk off ho hle
     simp only [fieldsIn, Bool.and_eq_true] at ho
     obtain ⟨⟨h1, h2⟩, h3⟩ := ho
     have h1 := Nat.eq_of_beq_eq_true h1
     have hfk := hf k f (by simpa using hk 0 f rfl)
     have hkl : k < xs.length := by
      have := hk 0 f rfl
      rw [hxl]
      exact (Array.getElem?_eq_some_iff.1 (by simpa using this)).1
     rw [List.getElem?_eq_getElem hkl, h1] at hfk
     obtain ⟨l1, g1, g2, g3⟩ := trod_repsS n m f.type _ _ C hw hM hlo h2 hfk (fun q hq => hwt q (by
      simp only [DataW.weights, ht]
      have h0 := hk 0 f rfl
      exact DataW.weights_mem_each (j := k) (by simp; exact ⟨f, by simpa using h0, rfl⟩) (by rw [List.getElem?_map, List.getElem?_eq_getElem hkl]; rfl) q hq))
     have hl1 : ((cs.drop off).take (P.cellsOf f.type)).length = P.cellsOf f.type := by
      have := fieldsIn_le _ _ _ h3
      simp
      omega
     obtain ⟨l2, k1, k2, k3⟩ := ih (k + 1) (fun i f' hi => by have := hk (i + 1) f' (by simpa using hi); rwa [show k + (i + 1) = k + 1 + i by omega] at this) (off + P.cellsOf f.type) h3 (by
      simp at hl1; omega)
     have e : cs.drop off = (cs.drop off).take (P.cellsOf f.type) ++ cs.drop (off + P.cellsOf f.type) := by
      rw [← List.drop_drop, List.take_append_drop]
     refine ⟨l1 ++ l2, by rw [e]; exact reps_append' g1 k1, ⟨l1, l2, rfl, g2, k2⟩, by rw [e, List.all_append, g3, k3]; rfl⟩
   simpa using key fs.toList 0 (fun i f hi => by simpa using hi) 0 hd (Nat.zero_le _)
  ·cases hd
theorem trod_repS {r : Reach} {b0 n : Nat} {t : TypeId} {v : Value} {d : DataW H} {ps : List MemPlace} {fr : Nat} (hd : dataT P n t = true) (hval : Value.okWide P w r b0 t v) (h : DataW.Trod enc P w 0 sp true t v d ps) (hwt : ∀ k ∈ DataW.weights P t d, k ≤ reachBytes) :
  ∃ l, typedS P n t l ∧ rep (cx0 w fr) (mkD P t l) v := by
 obtain ⟨fuel, h⟩ := h
 obtain ⟨l, h1, h2, h3⟩ := trod_repsS n fuel t _ _ (cx0 w fr) rfl (fun _ h => h) (fun _ => trivial) hd h hwt
 refine ⟨l, h2, ?_⟩
 unfold mkD aggT
 cases n with
 | zero => simp [dataT] at hd
 | succ n =>
  unfold dataT at hd
  unfold Value.okWide at hval
  split at hd
  case h_5 fs ht =>
   rw [ht] at hval ⊢
   obtain ⟨cs, rfl, _⟩ := hval
   simp only [cond_true, rep]
   exact ⟨cs.toList, by simp, by simpa [Value.cells] using h1⟩
  case h_6 => cases hd
  all_goals
   rename_i ht
   rw [ht] at hval ⊢
   simp only [cond_false]
   have hcv : v.cells = #[v] := by
    cases v with
    | agg cs => simp [Cell.okWide, Cell.ok, ht] at hval
    | _ => rfl
   rw [hcv] at h1
   have hl : ∃ d, l = [d] := List.length_eq_one_iff.1 ((reps_length _ _ h1).symm.trans rfl)
   obtain ⟨d, rfl⟩ := hl
   simp only [reps] at h1
   obtain ⟨v', vs', hv, hd', _⟩ := h1
   obtain rfl : v = v' := by simpa using (List.cons.inj hv).1
   exact hd'
def typedAllS (P : Program) (n : Nat) : List TypeId → List D → Prop
 | [], l => l = []
 | t :: ts, l => ∃ c r, l = mkD P t c :: r ∧ typedS P n t c ∧ typedAllS P n ts r
theorem trodAll_repsS {r : Reach} {b0 n fr : Nat} : ∀ {ts : List TypeId} {vs : List Value} {ds : List (DataW H)} {ps : List MemPlace}, ts.all (dataT P n) = true → (∀ (j : Nat) t v, ts[j]? = some t → vs[j]? = some v → Value.okWide P w r b0 t v) →
  DataW.TrodAll enc P w 0 sp true ts vs ds ps → (∀ k ∈ DataW.weightsEach P ts ds, k ≤ reachBytes) → ∃ l, typedAllS P n ts l ∧ reps (cx0 w fr) l vs
 | [], [], [], _, _, _, _, _ => ⟨[], rfl, by simp only [reps]⟩
 | t :: ts, v :: vs, d :: ds, ps, hd, hval, h, hwt => by
  obtain ⟨p, q, h1, h2, _⟩ := h
  simp only [List.all_cons, Bool.and_eq_true] at hd
  obtain ⟨c, g1, g2⟩ := trod_repS (fr := fr) hd.1 (hval 0 t v rfl rfl) h1 (fun k hk => hwt k (by simp only [DataW.weightsEach, List.mem_append]; exact .inl hk))
  obtain ⟨l, k1, k2⟩ := trodAll_repsS hd.2 (fun j t v h h' => hval (j + 1) t v h h') h2 (fun k hk => hwt k (by simp only [DataW.weightsEach, List.mem_append]; exact .inr hk))
  exact ⟨_ :: l, ⟨c, l, rfl, g1, k1⟩, by simp only [reps]; exact ⟨_, _, rfl, g2, k2⟩⟩
 | [], _ :: _, _, _, _, _, h, _ => h.elim
 | [], [], _ :: _, _, _, _, h, _ => h.elim
 | _ :: _, [], _, _, _, _, h, _ => h.elim
 | _ :: _, _ :: _, [], _, _, _, h, _ => h.elim
theorem law_contractS {K : FuncId} {f : Func} {s : ChangeSpec} {apart fresh : Bool} {n : Nat} {tb : TypeId} (hl : laidOutB P = true) (hr : (f.params.toList.all fun t => P.readableRec t && Nat.blt t P.types.size) = true)
  (hd : f.params.toList.all (dataT P n) = true) (hvars : s.vars = []) (hres : f.resultTypes = #[tb]) (hb : P.underlying tb = some .bool)
  (hfn : ∀ ds : List (DataW H), ds.length = f.params.size → s.fn H ds = { results := [.lit (.bool true)], args := ds })
  (hK : ∀ l, typedAllS P n f.params.toList l → CallP P K l (.bool true)) {W : World} {base : Nat} {args : Array Value} {ds gs : List (DataW H)} {before : List MemPlace}
  (hval : ∀ (j : Nat) t v, f.params[j]? = some t → args[j]? = some v → Value.okWide P W .any base t v) (hW : DataW.Whole enc P f.params.toList s.vars apart W args.toList ds gs before) {vt : List TypeId} (hsz : (DataW.weightsEach P (f.params.toList ++ vt) (ds ++ gs)).all (· ≤ reachBytes) = true) :
  Calls P K args W fun e W' => ∃ v, e = .returned v ∧ s.post enc P f apart fresh false false W args v W' := by
 have hW' := hW
 obtain ⟨p, q, hA, hV, rfl, hfz, hnd⟩ := hW
 rw [hvars] at hV
 have hlen : ds.length = f.params.size := by
  have : ∀ {ts : List TypeId} {vs : List Value} {ds : List (DataW H)} {ps : List MemPlace}, DataW.TrodAll enc P W 0 (fun _ => true) true ts vs ds ps → ds.length = ts.length := by
   intro ts
   induction ts with
   | nil => intro vs ds ps h; cases vs <;> cases ds <;> first | rfl | exact h.elim
   | cons t ts ih => intro vs ds ps h; cases vs <;> cases ds <;> first | (obtain ⟨_, _, _, h2, _⟩ := h; simp [ih h2]) | exact h.elim
  simpa using this hA
 have hgs : gs = [] ∧ q = [] := by
  cases gs with
  | nil => exact ⟨rfl, hV⟩
  | cons g gs => exact hV.elim
 obtain ⟨rfl, rfl⟩ := hgs
 obtain ⟨l, h1, h2⟩ := trodAll_repsS (fr := W.heap.size) hd (fun j t v h h' => hval j t v (by simpa using h) (by simpa using h')) hA (fun k hk => by
  have := List.all_eq_true.1 hsz k (weightsEach_pre hk)
  simpa using this)
 refine ((hK l h1).2 W _ h2).mono fun e W' ⟨v, he, hk, _, hv⟩ => ⟨v, he, ?_⟩
 simp only [rep] at hv
 subst hv
 have hB := hk.below
 have hlt := hW'.lt
 have hf := hfn ds hlen
 refine ⟨ds, [], p ++ [], [], p, [], hW', ?_, ?_, ?_, ?_, fun h => by cases h⟩
 ·rw [List.append_nil, hf, hres]
  exact ⟨[], [], ⟨1, by simp [DataW.trod, Value.cells, hb]⟩, rfl, rfl⟩
 ·rw [List.append_nil, hf]
  exact trodAll_stays hl hB hr hA fun x hx => ⟨hlt x (by simp [hx]), by simpa using hlt x (by simp [hx])⟩
 ·rw [List.append_nil, hf, hvars]
  rfl
 ·exact hB.frame _
end
section
variable {P : Program} {n : Nat} {t : TypeId} {l : List D}
theorem typedS_bool (hu : P.underlying t = some .bool) (h : typedS P (n + 1) t l) : ∃ b, l = [.bool b] := by
 rw [typedS, hu] at h; exact h
theorem typedS_int {k : IntKind} (hu : P.underlying t = some (.int k)) (h : typedS P (n + 1) t l) : ∃ m, l = [.int k m] := by
 rw [typedS, hu] at h; exact h
theorem typedS_str (hu : P.underlying t = some .string) (h : typedS P (n + 1) t l) : ∃ s, l = [.str s] := by
 rw [typedS, hu] at h; exact h
theorem list_ofS {α : Type} {f : α → D} {S : α → Prop} {g : List D → D} : ∀ (xs : List (List D)), (∀ x ∈ xs, ∃ y, g x = f y ∧ S y) → ∃ l : List α, xs.map g = l.map f ∧ l.length = xs.length ∧ ∀ y ∈ l, S y
 | [], _ => ⟨[], rfl, rfl, fun _ h => by cases h⟩
 | x :: xs, h => by
  obtain ⟨y, hy, hs⟩ := h x (by simp)
  obtain ⟨l, hl, hn, hS⟩ := list_ofS xs fun x hx => h x (by simp [hx])
  refine ⟨y :: l, by simp only [List.map_cons, hy, hl], by simp [hn], fun z hz => ?_⟩
  rcases List.mem_cons.1 hz with rfl | hz
  ·exact hs
  ·exact hS z hz
theorem typedS_list {α : Type} (f : α → D) (S : α → Prop) {e : TypeId} {s b : Nat} (hu : P.underlying t = some (.slice e)) (ha : aggT P t = false) (hc : P.cellsOf e = s) (hb : P.bytesOf e = b) (hx : ∀ x, typedS P n e x → ∃ y, mkD P e x = f y ∧ S y) (h : typedS P (n + 1) t l) :
  ∃ m : List α, mkD P t l = .imm s (m.map f) 4 ∧ m.length * b ≤ 140737488355328 ∧ ∀ y ∈ m, S y := by
 rw [typedS, hu] at h
 obtain ⟨xs, rfl, hle, hxs⟩ := h
 obtain ⟨m, hm, hn, hS⟩ := list_ofS (f := f) (S := S) (g := mkD P e) xs fun x hx' => hx x (hxs x hx')
 exact ⟨m, by rw [mkD_one ha, hm, hc], by rw [hn, ← hb]; exact hle, hS⟩
theorem typedS_one {e : TypeId} (hu : P.underlying t = some (.slice e)) (h : typedS P (n + 1) t l) : ∃ d, l = [d] := by
 rw [typedS, hu] at h
 obtain ⟨xs, rfl, _⟩ := h
 exact ⟨_, rfl⟩
theorem typedS_struct {fs : Array Field} (hu : P.underlying t = some (.struct fs)) (h : typedS P (n + 1) t l) : typedL (typedS P n) (fs.toList.map (·.type)) l := by
 rw [typedS, hu] at h; exact h
theorem typedAllS_cons {ts : List TypeId} (h : typedAllS P n (t :: ts) l) : ∃ c r, l = mkD P t c :: r ∧ typedS P n t c ∧ typedAllS P n ts r := h
theorem typedAllS_nil (h : typedAllS P n [] l) : l = [] := h
end
end Go.Tm
end
section
namespace Go.Proofs.Ytdoegejmepcmpaa.skeenDoes
open Go.ChangeShapes Go.WideShapes Go.RowKit Go.Tm
set_option maxRecDepth 100000
theorem own : ownKnob Try.prog.godebug = none := by kernel_rfl
theorem agg25 : aggT Try.prog 25 = true := by kernel_rfl
def sz3 (_ : Int) : Prop := True
theorem agg22 : aggT Try.prog 22 = false := by kernel_rfl
theorem agg52 : aggT Try.prog 52 = true := by kernel_rfl
theorem agg26 : aggT Try.prog 26 = false := by kernel_rfl
theorem agg3 : aggT Try.prog 3 = false := by kernel_rfl
theorem cells3 : Try.prog.cellsOf 3 = 1 := by kernel_rfl
theorem bytes3 : Try.prog.bytesOf 3 = 8 := by kernel_rfl
def sz26 (m : List Int) : Prop := m.length * 8 ≤ 140737488355328 ∧ ∀ y ∈ m, sz3 y
theorem tc26 {n : Nat} {l : List D} (h : typedS Try.prog (n + 2) 26 l) : ∃ m : List Int, l = [.imm 1 (m.map (D.int .i64)) 4] ∧ sz26 m := by
 obtain ⟨d, hd⟩ := typedS_one Try.underlying26 h
 obtain ⟨m, hm, hs⟩ := typedS_list (D.int .i64) sz3 Try.underlying26 agg26 cells3 bytes3 (fun x hx => by
  obtain ⟨a, ha⟩ := typedS_int Try.underlying3 hx
  have hsa : sz3 a := trivial
  exact ⟨a, ha ▸ mkD_one agg3, hsa⟩) h
 rw [hd, mkD_one agg26] at hm
 exact ⟨m, by rw [hd, hm], hs⟩
def sz9 (_ : List UInt8) : Prop := True
def sz28 (x : TMessage) : Prop := sz3 x.Id ∧ sz26 x.Groups ∧ sz3 x.Topic ∧ sz9 x.Key ∧ sz9 x.Body
theorem tc28 {n : Nat} {l : List D} (h : typedS Try.prog (n + 3) 28 l) : ∃ x : TMessage, l = [.int .i64 x.Id, .imm 1 (x.Groups.map (D.int .i64)) 4, .int .i64 x.Topic, .str x.Key, .str x.Body] ∧ sz28 x := by
 replace h := typedS_struct Try.underlying28 h
 obtain ⟨l0, r0, e0, h0, h⟩ := typedL_cons h
 obtain ⟨l1, r1, e1, h1, h⟩ := typedL_cons h
 obtain ⟨l2, r2, e2, h2, h⟩ := typedL_cons h
 obtain ⟨l3, r3, e3, h3, h⟩ := typedL_cons h
 obtain ⟨l4, r4, e4, h4, h⟩ := typedL_cons h
 have ez := typedL_nil h
 obtain ⟨a0, f0⟩ := typedS_int Try.underlying3 h0
 have s0 : sz3 a0 := trivial
 obtain ⟨a1, f1, s1⟩ := tc26 (n := n + 0) h1
 obtain ⟨a2, f2⟩ := typedS_int Try.underlying3 h2
 have s2 : sz3 a2 := trivial
 obtain ⟨a3, f3⟩ := typedS_str Try.underlying9 h3
 have s3 : sz9 a3 := trivial
 obtain ⟨a4, f4⟩ := typedS_str Try.underlying9 h4
 have s4 : sz9 a4 := trivial
 refine ⟨⟨a0, a1, a2, a3, a4⟩, ?_, s0, s1, s2, s3, s4⟩
 rw [e0, e1, e2, e3, e4, ez, f0, f1, f2, f3, f4]
 exact rfl
def sz4 (_ : Bool) : Prop := True
def sz52 (x : TWait) : Prop := sz28 x.Message ∧ sz3 x.Time ∧ sz4 x.Final
theorem tc52 {n : Nat} {l : List D} (h : typedS Try.prog (n + 4) 52 l) : ∃ x : TWait, l = [.int .i64 x.Message.Id, .imm 1 (x.Message.Groups.map (D.int .i64)) 4, .int .i64 x.Message.Topic, .str x.Message.Key, .str x.Message.Body, .int .i64 x.Time, .bool x.Final] ∧ sz52 x := by
 replace h := typedS_struct Try.underlying52 h
 obtain ⟨l0, r0, e0, h0, h⟩ := typedL_cons h
 obtain ⟨l1, r1, e1, h1, h⟩ := typedL_cons h
 obtain ⟨l2, r2, e2, h2, h⟩ := typedL_cons h
 have ez := typedL_nil h
 obtain ⟨a0, f0, s0⟩ := tc28 (n := n + 0) h0
 obtain ⟨a1, f1⟩ := typedS_int Try.underlying3 h1
 have s1 : sz3 a1 := trivial
 obtain ⟨a2, f2⟩ := typedS_bool Try.underlying4 h2
 have s2 : sz4 a2 := trivial
 refine ⟨⟨a0, a1, a2⟩, ?_, s0, s1, s2⟩
 rw [e0, e1, e2, ez, f0, f1, f2]
 exact rfl
theorem cells52 : Try.prog.cellsOf 52 = 7 := by kernel_rfl
theorem bytes52 : Try.prog.bytesOf 52 = 88 := by kernel_rfl
def sz22 (m : List TWait) : Prop := m.length * 88 ≤ 140737488355328 ∧ ∀ y ∈ m, sz52 y
theorem tc22 {n : Nat} {l : List D} (h : typedS Try.prog (n + 5) 22 l) : ∃ m : List TWait, l = [.imm 7 (m.map TWait.d) 4] ∧ sz22 m := by
 obtain ⟨d, hd⟩ := typedS_one Try.underlying22 h
 obtain ⟨m, hm, hs⟩ := typedS_list TWait.d sz52 Try.underlying22 agg22 cells52 bytes52 (fun x hx => by
  obtain ⟨a, ha, hsa⟩ := tc52 (n := n) hx
  exact ⟨a, (mkD_agg agg52).trans (by rw [ha]; rfl), hsa⟩) h
 rw [hd, mkD_one agg22] at hm
 exact ⟨m, by rw [hd, hm], hs⟩
theorem agg23 : aggT Try.prog 23 = false := by kernel_rfl
theorem agg70 : aggT Try.prog 70 = true := by kernel_rfl
def sz70 (x : TStamp) : Prop := sz3 x.Time ∧ sz3 x.Id
theorem tc70 {n : Nat} {l : List D} (h : typedS Try.prog (n + 2) 70 l) : ∃ x : TStamp, l = [.int .i64 x.Time, .int .i64 x.Id] ∧ sz70 x := by
 replace h := typedS_struct Try.underlying70 h
 obtain ⟨l0, r0, e0, h0, h⟩ := typedL_cons h
 obtain ⟨l1, r1, e1, h1, h⟩ := typedL_cons h
 have ez := typedL_nil h
 obtain ⟨a0, f0⟩ := typedS_int Try.underlying3 h0
 have s0 : sz3 a0 := trivial
 obtain ⟨a1, f1⟩ := typedS_int Try.underlying3 h1
 have s1 : sz3 a1 := trivial
 refine ⟨⟨a0, a1⟩, ?_, s0, s1⟩
 rw [e0, e1, ez, f0, f1]
 exact rfl
theorem cells70 : Try.prog.cellsOf 70 = 2 := by kernel_rfl
theorem bytes70 : Try.prog.bytesOf 70 = 16 := by kernel_rfl
def sz23 (m : List TStamp) : Prop := m.length * 16 ≤ 140737488355328 ∧ ∀ y ∈ m, sz70 y
theorem tc23 {n : Nat} {l : List D} (h : typedS Try.prog (n + 3) 23 l) : ∃ m : List TStamp, l = [.imm 2 (m.map TStamp.d) 4] ∧ sz23 m := by
 obtain ⟨d, hd⟩ := typedS_one Try.underlying23 h
 obtain ⟨m, hm, hs⟩ := typedS_list TStamp.d sz70 Try.underlying23 agg23 cells70 bytes70 (fun x hx => by
  obtain ⟨a, ha, hsa⟩ := tc70 (n := n) hx
  exact ⟨a, (mkD_agg agg70).trans (by rw [ha]; rfl), hsa⟩) h
 rw [hd, mkD_one agg23] at hm
 exact ⟨m, by rw [hd, hm], hs⟩
def sz25 (x : TSkeen) : Prop := sz3 x.Clock ∧ sz22 x.Waits ∧ sz23 x.Done
theorem tc25 {n : Nat} {l : List D} (h : typedS Try.prog (n + 6) 25 l) : ∃ x : TSkeen, l = [.int .i64 x.Clock, .imm 7 (x.Waits.map TWait.d) 4, .imm 2 (x.Done.map TStamp.d) 4] ∧ sz25 x := by
 replace h := typedS_struct Try.underlying25 h
 obtain ⟨l0, r0, e0, h0, h⟩ := typedL_cons h
 obtain ⟨l1, r1, e1, h1, h⟩ := typedL_cons h
 obtain ⟨l2, r2, e2, h2, h⟩ := typedL_cons h
 have ez := typedL_nil h
 obtain ⟨a0, f0⟩ := typedS_int Try.underlying3 h0
 have s0 : sz3 a0 := trivial
 obtain ⟨a1, f1, s1⟩ := tc22 (n := n + 0) h1
 obtain ⟨a2, f2, s2⟩ := tc23 (n := n + 2) h2
 refine ⟨⟨a0, a1, a2⟩, ?_, s0, s1, s2⟩
 rw [e0, e1, e2, ez, f0, f1, f2]
 exact rfl
theorem agg30 : aggT Try.prog 30 = true := by kernel_rfl
def sz5 (_ : Int) : Prop := True
def sz30 (x : TCommand) : Prop := sz5 x.Kind ∧ sz28 x.Message ∧ sz3 x.Id ∧ sz3 x.Time ∧ sz26 x.Members ∧ sz3 x.Topic ∧ sz3 x.Who ∧ sz3 x.N
theorem tc30 {n : Nat} {l : List D} (h : typedS Try.prog (n + 4) 30 l) : ∃ x : TCommand, l = [.int .u8 x.Kind, .int .i64 x.Message.Id, .imm 1 (x.Message.Groups.map (D.int .i64)) 4, .int .i64 x.Message.Topic, .str x.Message.Key, .str x.Message.Body, .int .i64 x.Id, .int .i64 x.Time, .imm 1 (x.Members.map (D.int .i64)) 4, .int .i64 x.Topic, .int .i64 x.Who, .int .i64 x.N] ∧ sz30 x := by
 replace h := typedS_struct Try.underlying30 h
 obtain ⟨l0, r0, e0, h0, h⟩ := typedL_cons h
 obtain ⟨l1, r1, e1, h1, h⟩ := typedL_cons h
 obtain ⟨l2, r2, e2, h2, h⟩ := typedL_cons h
 obtain ⟨l3, r3, e3, h3, h⟩ := typedL_cons h
 obtain ⟨l4, r4, e4, h4, h⟩ := typedL_cons h
 obtain ⟨l5, r5, e5, h5, h⟩ := typedL_cons h
 obtain ⟨l6, r6, e6, h6, h⟩ := typedL_cons h
 obtain ⟨l7, r7, e7, h7, h⟩ := typedL_cons h
 have ez := typedL_nil h
 obtain ⟨a0, f0⟩ := typedS_int Try.underlying5 h0
 have s0 : sz5 a0 := trivial
 obtain ⟨a1, f1, s1⟩ := tc28 (n := n + 0) h1
 obtain ⟨a2, f2⟩ := typedS_int Try.underlying3 h2
 have s2 : sz3 a2 := trivial
 obtain ⟨a3, f3⟩ := typedS_int Try.underlying3 h3
 have s3 : sz3 a3 := trivial
 obtain ⟨a4, f4, s4⟩ := tc26 (n := n + 1) h4
 obtain ⟨a5, f5⟩ := typedS_int Try.underlying3 h5
 have s5 : sz3 a5 := trivial
 obtain ⟨a6, f6⟩ := typedS_int Try.underlying3 h6
 have s6 : sz3 a6 := trivial
 obtain ⟨a7, f7⟩ := typedS_int Try.underlying3 h7
 have s7 : sz3 a7 := trivial
 refine ⟨⟨a0, a1, a2, a3, a4, a5, a6, a7⟩, ?_, s0, s1, s2, s3, s4, s5, s6, s7⟩
 rw [e0, e1, e2, e3, e4, e5, e6, e7, ez, f0, f1, f2, f3, f4, f5, f6, f7]
 exact rfl
theorem params3 : Try.f3.params.toList = [25, 25, 3, 30, 3] := by kernel_rfl
theorem hK (l : List D) (h : typedAllS Try.prog 8 Try.f3.params.toList l) : CallP Try.prog 3 l (.bool true) := by
 rw [params3] at h
 obtain ⟨c0, r0, e0, h0, h⟩ := typedAllS_cons h
 obtain ⟨c1, r1, e1, h1, h⟩ := typedAllS_cons h
 obtain ⟨c2, r2, e2, h2, h⟩ := typedAllS_cons h
 obtain ⟨c3, r3, e3, h3, h⟩ := typedAllS_cons h
 obtain ⟨c4, r4, e4, h4, h⟩ := typedAllS_cons h
 have ez := typedAllS_nil h
 obtain ⟨a0, f0, s0⟩ := tc25 (n := 2) h0
 obtain ⟨a1, f1, s1⟩ := tc25 (n := 2) h1
 obtain ⟨a2, f2⟩ := typedS_int Try.underlying3 h2
 have s2 : sz3 a2 := trivial
 obtain ⟨a3, f3, s3⟩ := tc30 (n := 4) h3
 obtain ⟨a4, f4⟩ := typedS_int Try.underlying3 h4
 have s4 : sz3 a4 := trivial
 rw [e0, e1, e2, e3, e4, ez, f0, f1, f2, f3, f4, mkD_agg agg25, mkD_one agg3, mkD_agg agg30]
 exact callP_wf ⟨Try.f3, Try.func3, by decide, rfl⟩ fun hw => callP_towncrierlaw15_SkeenDoes a0 a1 a2 a3 a4 _ (skeendoes_law a0 a1 a2 a3 a4 hw.2.2.2.2.1 (fun w hm => (s0.2.1.2 w hm).1.2.1.1))
set_option maxRecDepth 100000 in
theorem lifted (os : Os) (started : os.Started) (H : Type) (enc : TypeId × Value → H) :
  ReturnsInHanded {} Try.checked os 3 .any (Rows.skeenDoesSpec.pre6 enc Try.prog Try.f3 Rows.skeenDoesRow.domain false) (Rows.skeenDoesSpec.post enc Try.prog Try.f3 false true false false) := by
 refine returnsInHanded_of_change_sized (C := Try.checked) own started (by kernel_rfl) Try.func3
  (ChangeSpec.witness6 (enc := enc) (C := Try.checked) false ⟨#[], #[.agg #[.int .i64 0, .slice none 0 0, .slice none 0 0], .agg #[.int .i64 0, .slice none 0 0, .slice none 0 0], .int .i64 0, .agg #[.int .u8 0, .int .i64 0, .slice none 0 0, .int .i64 0, .string ⟨#[]⟩, .string ⟨#[]⟩, .int .i64 0, .int .i64 0, .slice none 0 0, .int .i64 0, .int .i64 0, .int .i64 0], .int .i64 0], []⟩ 8 (by kernel_rfl) (by kernel_rfl) (by kernel_rfl) (by kernel_rfl)) ?_
 intro W base args ds gs before hval hW _ hsz _
 exact law_contractS (K := 3) (n := 8) (tb := 4) (by kernel_rfl) (by kernel_rfl) (by kernel_rfl) rfl rfl Try.underlying4 (fun ds h => by
  match ds, h with
  | [_, _, _, _, _], _ => rfl) hK hval hW hsz
end Go.Proofs.Ytdoegejmepcmpaa.skeenDoes
end
