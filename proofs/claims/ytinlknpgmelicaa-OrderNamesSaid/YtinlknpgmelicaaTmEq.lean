/- Comparing structs of plain cells. -/
import Derived.Test.YtinlknpgmelicaaTmOps2
import Derived.DeepKeys
import Derived.Laws.StructEq
namespace Go.Tm
open Go.RowKit Go.WideShapes

/-! ## '==' on structs of numbers, texts, bools -/
def litOf : D → Lit
  | .int k n => .int k n
  | .str s => .string s
  | .bool b => .bool b
  | _ => .bool false

def likeZ : List D → List D → Bool
  | [], [] => true
  | .int k _ :: z, .int k1 _ :: l => decide (k1 = k) && likeZ z l
  | .str _ :: z, .str _ :: l => likeZ z l
  | .bool _ :: z, .bool _ :: l => likeZ z l
  | _, _ => false

theorem aggEq_like : ∀ (z l l' : List D) (r : Bool), aggEq z l l' = some r → likeZ z l = true ∧ likeZ z l' = true ∧ (r = true ↔ l.map litOf = l'.map litOf) := by
  intro z
  induction z with
  | nil =>
    intro l l' r h
    cases l with
    | nil =>
      cases l' with
      | nil => simp [aggEq] at h; subst h; simp [likeZ]
      | cons _ _ => simp [aggEq] at h
    | cons _ _ => simp [aggEq] at h
  | cons z0 z ih =>
    intro l l' r h
    unfold aggEq at h
    split at h
    · rename_i e; cases e
    · rename_i k n z' k1 a l k2 b l' e
      cases e
      cases hk : decide (k1 = k) && decide (k2 = k)
      · rw [hk] at h; cases h
      · rw [hk] at h
        simp only [cond_true] at h
        simp only [Bool.and_eq_true, decide_eq_true_eq] at hk
        obtain ⟨rfl, rfl⟩ := hk
        split at h
        · rename_i r' hr
          cases h
          obtain ⟨h1, h2, h3⟩ := ih _ _ _ hr
          simp [likeZ, h1, h2, litOf, h3]
        · cases h
    · rename_i z' a l b l' e
      cases e
      split at h
      · rename_i r' hr
        cases h
        obtain ⟨h1, h2, h3⟩ := ih _ _ _ hr
        simp [likeZ, h1, h2, litOf, h3]
      · cases h
    · rename_i z' a l b l' e
      cases e
      split at h
      · rename_i r' hr
        cases h
        obtain ⟨h1, h2, h3⟩ := ih _ _ _ hr
        simp [likeZ, h1, h2, litOf, h3]
      · cases h
    · cases h

/-- the cells as literals, field by field -/
theorem keyLits_fields {P : Program} {C : Cx} : ∀ (fs : List Field) (j : Nat) (z l : List D) (pre cs : List Value), pre.length = j → fieldsEq P j fs z = true → likeZ z l = true → reps C l cs →
    (fs.mapM fun f => P.keyLits 1 f.type (((pre ++ cs).drop f.offset).take (P.cellsOf f.type))) = some (l.map fun d => [litOf d]) ∧ fs.all (·.name != "_") = true ∧ cs.length = fs.length
  | [], j, z, l, pre, cs, hp, hf, hl, hr => by
    cases z with
    | nil =>
      cases l with
      | nil => simp only [reps] at hr; subst hr; simp
      | cons d l => simp [likeZ] at hl
    | cons _ _ => simp [fieldsEq] at hf
  | f :: fs, j, z, l, pre, cs, hp, hf, hl, hr => by
    cases z with
    | nil => simp [fieldsEq] at hf
    | cons z0 z =>
      simp only [fieldsEq, Bool.and_eq_true] at hf
      obtain ⟨⟨⟨⟨h1, h2⟩, h3⟩, h4⟩, h5⟩ := hf
      have h1 := Nat.eq_of_beq_eq_true h1
      have h2 := Nat.eq_of_beq_eq_true h2
      cases l with
      | nil => cases z0 <;> simp [likeZ] at hl
      | cons d l =>
        simp only [reps] at hr
        obtain ⟨v, vs, rfl, hd, hr⟩ := hr
        have hrest : likeZ z l = true ∧ P.keyLits 1 f.type [v] = some [litOf d] := by
          unfold likeZ at hl
          split at hl
          · rename_i e _; cases e
          · rename_i k n z' k1 m l' e e'
            cases e; cases e'
            simp only [Bool.and_eq_true, decide_eq_true_eq] at hl
            obtain ⟨rfl, hl⟩ := hl
            simp only [rep] at hd
            obtain ⟨rfl, hd⟩ := hd
            refine ⟨hl, ?_⟩
            split at h4
            · rename_i k k' n' hu hz
              cases hz
              simp only [decide_eq_true_eq] at h4
              subst h4
              simp [Program.keyLits, hu, Lit.wf, hd, litOf]
            · rename_i hz; cases hz
            · rename_i hz; cases hz
            · cases h4
          · rename_i s z' t l' e e'
            cases e; cases e'
            simp only [rep] at hd
            obtain ⟨rfl, hd⟩ := hd
            refine ⟨hl, ?_⟩
            split at h4
            · rename_i hz; cases hz
            · rename_i hu hz
              have : (ByteArray.mk t.toArray).size ≤ maxLen := by
                have e : (ByteArray.mk t.toArray).size = t.length := by simp [ByteArray.size]
                rw [e]; show t.length ≤ 9223372036854775807; omega
              simp [Program.keyLits, hu, litOf, this]
            · rename_i hz; cases hz
            · cases h4
          · rename_i b z' b' l' e e'
            cases e; cases e'
            simp only [rep] at hd
            subst hd
            refine ⟨hl, ?_⟩
            split at h4
            · rename_i hz; cases hz
            · rename_i hz; cases hz
            · rename_i hu hz
              simp [Program.keyLits, hu, litOf]
            · cases h4
          · cases hl
        obtain ⟨g1, g2, g3⟩ := keyLits_fields fs (j + 1) z l (pre ++ [v]) vs (by simp [hp]) h5 hrest.1 hr
        have hd1 : ((pre ++ v :: vs).drop f.offset).take (P.cellsOf f.type) = [v] := by
          rw [h1, h2, ← hp, List.drop_left]; rfl
        rw [List.append_assoc, List.singleton_append] at g1
        refine ⟨?_, by simp [g2, h3], by simp [g3]⟩
        rw [List.mapM_cons, hd1, hrest.2, g1]
        rfl

theorem flat_one : ∀ l : List D, (l.map fun d => [litOf d]).flatten = l.map litOf
  | [] => rfl
  | d :: l => by simp [flat_one l]

theorem q_aggEq {P : Program} {C : Cx} {w : World} {o : Oper} {a : Act} {op : BinOp} {t ty : TypeId} {x y : Operand} {l l' z : List D} {r : Bool} {d : D} {fs : Array Field} (ho : o.op = .binOp op t x y ty)
    (hk : P.keyTypeAt 3 t = true) (hg : P.eqGuardType P.depth t = false) (hfs : P.underlying t = some (.struct fs)) (hfe : fieldsEq P 0 fs.toList z = true) (hsz : P.cellsOf t = fs.size)
    (h : aggEq z l l' = some r) (hu : rep C (.agg l) (a.eval x)) (hv : rep C (.agg l') (a.eval y)) (hop : op = .eql ∧ d = .bool r ∨ op = .neq ∧ d = .bool (!r)) : Quiet P C a o d w := by
  obtain ⟨h1, h2, h3⟩ := aggEq_like z l l' r h
  simp only [rep] at hu hv
  obtain ⟨cs, hu, hr⟩ := hu
  obtain ⟨cs', hv, hr'⟩ := hv
  have kl : ∀ (l : List D) (cs : List Value), likeZ z l = true → reps C l cs → P.keyLits 2 t cs = some (l.map litOf) ∧ cs.length = fs.size := by
    intro l cs hl hr
    obtain ⟨g1, g2, g3⟩ := keyLits_fields fs.toList 0 z l [] cs rfl hfe hl hr
    refine ⟨?_, by simpa using g3⟩
    rw [List.nil_append] at g1
    unfold Program.keyLits
    simp only [hfs]
    rw [if_pos ⟨by rw [hsz]; simpa using g3, by rw [← Array.all_toList]; exact g2⟩, g1]
    simp [flat_one]
  obtain ⟨k1, n1⟩ := kl l cs h1 hr
  obtain ⟨k2, n2⟩ := kl l' cs' h2 hr'
  obtain ⟨r', e1, e2⟩ := run_equalIn_deep (P := P) 9997 3 t hk w 2 2 (.agg cs.toArray) (.agg cs'.toArray) _ _ (by simp [Value.formed, hfs, n1, hsz]) (by simp [Value.formed, hfs, n2, hsz]) k1 k2
  have hrr : r' = r := by
    rw [Bool.eq_iff_iff]; exact e2.trans h3.symm
  subst hrr
  have e1 : (Op.equal t (.agg cs.toArray) (.agg cs'.toArray)).run P w = .ok r' w := e1
  unfold Quiet execOp
  simp only [ho, hu, hv]
  rcases hop with ⟨rfl, rfl⟩ | ⟨rfl, rfl⟩
  · refine ⟨.bool r', ?_, by simp only [rep]⟩
    simp only [Sem.run_bind, run_eqGuard_agg _ _ _ _ _ _ _ hg, Result.andThen_ok, binOp, e1, Sem.run_pure]
  · refine ⟨.bool (!r'), ?_, by simp only [rep]⟩
    simp only [Sem.run_bind, run_eqGuard_agg _ _ _ _ _ _ _ hg, Result.andThen_ok, binOp, e1, Sem.run_pure]
end Go.Tm
