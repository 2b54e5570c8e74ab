/- Slices against nil. -/
import Derived.Test.YtlcfmbaeaieomaaDoorPure1
import Derived.Laws.Cover3
set_option linter.unusedVariables false
namespace Go.AW
open Go
section
variable {P : Program} {d : Option Tmp} {ty : TypeId} {pos : String} {aft : Array Edge} {g : Option (Nat × Bool)} {ρ : Operand → Value} {H : AHeap}
theorem run_eqlSN (w : World) (t e : TypeId) (a : Option Addr) (l c : Nat) (h : P.underlying t = some (.slice e)) : (binOp .eql t (.slice a l c) (.slice none 0 0)).run P w = .ok (.bool a.isNone) w := by
  simp only [binOp]
  simp [run_equal_slice_nil w t e a l c h]
theorem ao_eqSN {t e yt : TypeId} {x y : Operand} {a : Addr} {n c : Nat} (hu : P.underlying t = some (.slice e)) (hx : ρ x = .slice (some a) n c) (hy : ρ y = .slice none 0 0) : AOd P ⟨d, .binOp .eql t x y yt, ty, pos, aft, g⟩ ρ H (.bool false) H :=
  AO.pure fun β ρ' w h hh => by
    have q1 := h x (by simp [Op.operands]); rw [hx] at q1
    have q2 := h y (by simp [Op.operands]); rw [hy] at q2
    obtain ⟨a', c', ha, hA⟩ := q1.slice_inv
    refine ⟨_, ?_, .bool _⟩
    simp [execOp, ha, q2.nil_inv, go_sem, eqGuard, run_eqlSN w t e _ _ _ hu]
theorem ao_neSN {t e yt : TypeId} {x y : Operand} {a : Addr} {n c : Nat} (hu : P.underlying t = some (.slice e)) (hx : ρ x = .slice (some a) n c) (hy : ρ y = .slice none 0 0) : AOd P ⟨d, .binOp .neq t x y yt, ty, pos, aft, g⟩ ρ H (.bool true) H :=
  AO.pure fun β ρ' w h hh => by
    have q1 := h x (by simp [Op.operands]); rw [hx] at q1
    have q2 := h y (by simp [Op.operands]); rw [hy] at q2
    obtain ⟨a', c', ha, hA⟩ := q1.slice_inv
    refine ⟨_, ?_, .bool _⟩
    simp [execOp, ha, q2.nil_inv, go_sem, eqGuard, run_neq_slice_nil w t e _ _ _ hu]
theorem ao_eqNN {t e yt : TypeId} {x y : Operand} (hu : P.underlying t = some (.slice e)) (hx : ρ x = .slice none 0 0) (hy : ρ y = .slice none 0 0) : AOd P ⟨d, .binOp .eql t x y yt, ty, pos, aft, g⟩ ρ H (.bool true) H :=
  AO.pure fun β ρ' w h hh => by
    have q1 := h x (by simp [Op.operands]); rw [hx] at q1
    have q2 := h y (by simp [Op.operands]); rw [hy] at q2
    refine ⟨_, ?_, .bool _⟩
    simp [execOp, q1.nil_inv, q2.nil_inv, go_sem, eqGuard, run_eqlSN w t e _ _ _ hu]
theorem ao_appZ {t tx e : TypeId} {s x : Operand} {b o m size bytes : Nat} {xv : Value} {news : List Value} (ht : P.underlying t = some (.slice e)) (htx : ∃ e2, P.underlying tx = some (.slice e2)) (he : Elem P e size bytes)
    (hs : ρ s = .slice (some ⟨b, o, none⟩) 0 0) (hx : ρ x = xv) (hsrc : Src H size xv m news) (h0 : 0 < m) (h63 : m ≤ 9223372036854775807) (hby : m * bytes ≤ 140737488355328) :
    AOd P ⟨d, .call ⟨.builtin .append, #[s, x], #[t, tx]⟩, ty, pos, aft, g⟩ ρ H (.slice (some ⟨H.next, 0, none⟩) m (m + 1)) (H.push (.cells news size)) := by
  have := ao_appE (k := .map []) (cs := []) (d := d) (ty := ty) (pos := pos) (aft := aft) (g := g) ht htx he hs hx (.inl ⟨rfl, rfl⟩) hsrc h0 (by omega) (by rw [Nat.zero_add]; exact hby)
  rwa [Nat.zero_add] at this
end

/-- Holds that have closed up. -/
def closeL (hs : List Hold) : List Hold := hs.mapIdx fun i h => ⟨h.who, IntKind.i8.wrap i⟩
theorem closeL_len (hs : List Hold) : (closeL hs).length = hs.length := by simp [closeL]
theorem closeL_at {hs : List Hold} {i : Nat} {x : Hold} (h : hs[i]? = some x) : (closeL hs)[i]? = some ⟨x.who, IntKind.i8.wrap i⟩ := by
  simp [closeL, List.getElem?_mapIdx, h]

/-- How far holds are apart. -/
def knotOf (hs : List Hold) (i : Nat) : Nat := (hs.getD i ⟨0, 0⟩).knot.toNat
def hgaps (ks : List Int) (hs : List Hold) : List Int := (List.range (hs.length - 1)).map fun i => ks.getD (knotOf hs (i + 1)) 0 - ks.getD (knotOf hs i) 0
theorem hgaps_len (ks : List Int) (hs : List Hold) : (hgaps ks hs).length = hs.length - 1 := by simp [hgaps]
theorem knotOf_at {hs : List Hold} {i : Nat} {x : Hold} (h : hs[i]? = some x) : knotOf hs i = x.knot.toNat := by
  unfold knotOf; rw [List.getD_eq_getElem?_getD, h]; rfl
theorem hgaps_at {ks : List Int} {hs : List Hold} {k : Nat} {x y : Hold} {a b : Int} (hx : hs[k]? = some x) (hy : hs[k + 1]? = some y) (ha : ks[x.knot.toNat]? = some a) (hb : ks[y.knot.toNat]? = some b) : (hgaps ks hs)[k]? = some (b - a) := by
  have h := (List.getElem?_eq_some_iff.mp hy).1
  simp [hgaps, List.getElem?_range (show k < hs.length - 1 by omega), knotOf_at hx, knotOf_at hy, ha, hb]
end Go.AW
