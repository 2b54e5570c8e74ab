/- When two structs are equal, field by field. -/
import Derived.Test.YtlcfmbaeaieomaaDoorTop2
import Derived.Laws.StructEq
import Derived.WalkKit
set_option linter.unusedVariables false
set_option linter.unusedSimpArgs false
namespace Go.AW
open Go
section
variable {P : Program} {d : Nat} {xs ys : Array Value} {f : Field} {fs : List Field} {a b : Value} {r s : Bool} {w : World}
theorem seq_one (hn : (f.name == "_") = false) (ha : (part f.type xs f.offset).run P w = .ok a w) (hb : (part f.type ys f.offset).run P w = .ok b w) (he : (Op.equalIn d f.type a b).run P w = .ok r w) :
    (Op.eqFields d xs ys [f]).run P w = .ok r w := by
  have h : f.name ≠ "_" := by simpa using hn
  simp only [Op.eqFields, if_pos h, Sem.run_bind, ha, hb, he, Result.andThen_ok]
  cases r <;> simp
theorem seq_more (hn : (f.name == "_") = false) (ha : (part f.type xs f.offset).run P w = .ok a w) (hb : (part f.type ys f.offset).run P w = .ok b w) (he : (Op.equalIn d f.type a b).run P w = .ok r w)
    (hr : (Op.eqFields d xs ys fs).run P w = .ok s w) : (Op.eqFields d xs ys (f :: fs)).run P w = .ok (r && s) w := by
  have h : f.name ≠ "_" := by simpa using hn
  rw [Op.eqFields]
  simp only [if_pos h, Sem.run_bind, ha, hb, he, Result.andThen_ok]
  cases r
  · simp
  · simpa using hr
theorem seq_all {t : TypeId} {gs : Array Field} (hu : P.underlying t = some (.struct gs)) (hp : P.stoodInHeld t = false) (h : (Op.eqFields d xs ys gs.toList).run P w = .ok r w) : (Op.equalIn (d + 1) t (.agg xs) (.agg ys)).run P w = .ok r w := by
  have hf : P.fieldsOf t = gs := by simp [Program.fieldsOf, hu]
  rw [run_equalIn_struct (P := P) w d t xs ys (by rw [hf]; exact hu) hp, hf]
  exact h
end
theorem hold_eq (x y : Hold) : (x.who == y.who && x.knot == y.knot) = decide (x = y) := by
  by_cases h : x = y
  · subst h; simp
  · rw [decide_eq_false h]
    cases q : (x.who == y.who && x.knot == y.knot) with
    | false => rfl
    | true => simp at q; exact absurd (hold_ext q.1 q.2) h
theorem said_eq (x y : Said) : (x.number == y.number && x.check == y.check) = decide (x = y) := by
  by_cases h : x = y
  · subst h; simp
  · rw [decide_eq_false h]
    cases q : (x.number == y.number && x.check == y.check) with
    | false => rfl
    | true => simp at q; exact absurd (said_ext q.1 q.2) h
theorem spot_eq (x y : Spot) : (x.x == y.x && x.y == y.y) = decide (x = y) := by
  by_cases h : x = y
  · subst h; simp
  · rw [decide_eq_false h]
    cases q : (x.x == y.x && x.y == y.y) with
    | false => rfl
    | true => simp at q; exact absurd (spot_ext q.1 q.2) h

theorem exists_bool (p : Prop) : ∃ b : Bool, b = true ↔ p := by
  by_cases h : p
  · exact ⟨true, by simp [h]⟩
  · exact ⟨false, by simp [h]⟩
theorem bt {b : Bool} {p : Prop} (hb : b = true ↔ p) (h : p) : Value.bool true = Value.bool b := by rw [hb.mpr h]
theorem bf {b : Bool} {p : Prop} (hb : b = true ↔ p) (h : ¬ p) : Value.bool false = Value.bool b := by
  cases b with
  | false => rfl
  | true => exact absurd (hb.mp rfl) h
end Go.AW
