/- Arguments that are plain structs and arrays: what comes in is an aggregate of plain cells. -/
import Derived.Test.YtlcfmbaeaieomaaDoorPure3
import Derived.OpenShut
import Derived.ChangeSame
namespace Go.AW
open Go Go.ChangeShapes

theorem wf_u16 {n : Int} (h : (Lit.int .u16 n).wf = true) : 0 ≤ n ∧ n < 65536 := by
  simp [Lit.wf, IntKind.min, IntKind.max, IntKind.signed, IntKind.bits] at h
  omega

/-- Ten numbers. -/
theorem dec_walls {P : Program} {t e : TypeId} (ht : P.underlying t = some (.array 10 e)) (he : P.underlying e = some (.int .u16)) (ce : P.cellsOf e = 1) (ct : P.cellsOf t = 10) : Dec P t 10 wallsC rowsOk where
  len _ := rfl
  cells := ct
  plain f := wallsC_plain f
  get {H enc w base sp held fuel cs x} h := by
    obtain ⟨xs, m, _, _, hl, hn, hall⟩ := DataW.trod_array ht h
    rw [ct] at hl
    have key : ∀ i, i < 10 → ∃ n : Nat, n < 65536 ∧ cs[i]? = some (.int .u16 (n : Int)) := by
      intro i hi
      have q := hall i hi
      rw [ce, Nat.mul_one] at q
      obtain ⟨y, hy⟩ : ∃ y, xs[i]? = some y := get_lt (by omega)
      rw [hy] at q
      obtain ⟨n, hc, hw⟩ := (dec_int (P := P) he ce).get q
      have hw' := wf_u16 hw
      refine ⟨n.toNat, by omega, ?_⟩
      have : ((cs.drop i).take 1)[0]? = some (Value.int .u16 n) := by rw [hc]; rfl
      rw [List.getElem?_take, if_pos (by omega), List.getElem?_drop, Nat.add_zero] at this
      rw [this, Int.toNat_of_nonneg hw'.1]
    have key2 : ∃ f : Nat → Nat, rowsOk f ∧ ∀ i, i < 10 → cs[i]? = some (.int .u16 (f i : Int)) := by
      refine ⟨fun i => if h : i < 10 then (key i h).choose else 0, fun y => ?_, fun i hi => ?_⟩
      · show (if h : y < 10 then (key y h).choose else 0) < 65536
        split
        · rename_i hy; exact (key y hy).choose_spec.1
        · decide
      · show cs[i]? = some (.int .u16 ((if h : i < 10 then (key i h).choose else 0 : Nat) : Int))
        rw [dif_pos hi]; exact (key i hi).choose_spec.2
    obtain ⟨f, hf, hc⟩ := key2
    refine ⟨f, ?_, hf⟩
    apply List.ext_getElem?
    intro i
    rcases Nat.lt_or_ge i 10 with hi | hi
    · rw [hc i hi, wallsC_at f i hi]
    · rw [List.getElem?_eq_none (by omega), List.getElem?_eq_none (by show 10 ≤ i; exact hi)]

theorem dec_room {P : Program} {t : TypeId} {f0 f1 f2 : Field} (ht : P.underlying t = some (.struct #[f0, f1, f2])) (D0 : Dec P f0.type 1 i8 (fun n => (Lit.int .i8 n).wf = true)) (D1 : Dec P f1.type 1 i8 (fun n => (Lit.int .i8 n).wf = true)) (D2 : Dec P f2.type 10 wallsC rowsOk)
    (hc : P.cellsOf t = 12) (h0 : f0.offset = 0) (h1 : f1.offset = 1) (h2 : f2.offset = 2) : Dec P t 12 roomC wfRoom where
  len _ := rfl
  cells := hc
  plain r := roomC_plain r
  get {H enc w base sp held fuel cs x} h := by
    obtain ⟨xs, n, _, _, hl, hlen, hf⟩ := DataW.trod_struct ht h
    obtain ⟨y0, y1, y2, rfl⟩ : ∃ y0 y1 y2, xs = [y0, y1, y2] := by
      match xs, hlen with
      | [y0, y1, y2], _ => exact ⟨y0, y1, y2, rfl⟩
    have q0 := hf 0 f0 rfl
    have q1 := hf 1 f1 rfl
    have q2 := hf 2 f2 rfl
    simp only [List.getElem?_cons_zero, List.getElem?_cons_succ] at q0 q1 q2
    rw [h0, D0.cells, List.drop_zero] at q0
    rw [h1, D1.cells] at q1
    rw [h2, D2.cells] at q2
    obtain ⟨a, ha, oa⟩ := D0.get q0
    obtain ⟨b, hb, ob⟩ := D1.get q1
    obtain ⟨f, hf, of⟩ := D2.get q2
    rw [hc] at hl
    refine ⟨⟨a, b, f⟩, ?_, wf_i8' oa, wf_i8' ob, of⟩
    have e : cs = cs.take 1 ++ ((cs.drop 1).take 1 ++ (cs.drop 2).take 10) := by
      rw [List.take_of_length_le (l := cs.drop 2) (by rw [List.length_drop]; omega)]
      have : (cs.drop 1).take 1 ++ cs.drop 2 = cs.drop 1 := by
        rw [show cs.drop 2 = (cs.drop 1).drop 1 by rw [List.drop_drop], List.take_append_drop]
      rw [this, List.take_append_drop]
    rw [e, ha, hb, hf]
    rfl
where
  wf_i8' {n : Int} (h : (Lit.int .i8 n).wf = true) : -128 ≤ n ∧ n ≤ 127 := by
    simp [Lit.wf, IntKind.min, IntKind.max, IntKind.signed, IntKind.bits] at h
    omega

theorem argPlain {Hd : Type} {enc : TypeId × Value → Hd} {α : Type} {P : Program} {t : TypeId} {fs : Array Field} {n : Nat} {e : α → List Value} {ok : α → Prop} (D : Dec P t n e ok) (ht : P.underlying t = some (.struct fs)) {W : World} {base : Nat} {v : Value}
    {d : DataW Hd} {p : List MemPlace} (hv : Value.okWide P W .any base t v) (h : DataW.Trod enc P W 0 (fun _ => true) true t v d p) : ∃ a, v = .agg (e a).toArray ∧ ok a := by
  unfold Value.okWide at hv
  rw [ht] at hv
  obtain ⟨cs, rfl, _⟩ := hv
  obtain ⟨fuel, hf⟩ := h
  obtain ⟨a, ha, oa⟩ := D.get hf
  have e0 : (Value.agg cs).cells.toList = cs.toList := rfl
  rw [e0] at ha
  exact ⟨a, by rw [← ha], oa⟩
theorem vr_plain (β : Bt) {v : Value} (h : plainV v = true) : VR β v v := VR.plain β h
end Go.AW
