/- A search's walk: its maps. -/
import Derived.Test.YtkjmcolnoehjbaaBfs
import Derived.Test.YtkjmcolnoehjbaaAny
namespace Go.AW
open Go
set_option linter.unusedVariables false
set_option linter.unusedSectionVars false
set_option linter.unusedSimpArgs false

abbrev spV (s : Spot) : Value := .agg #[.int .i8 s.x, .int .i8 s.y]
abbrev ivV (n : Int) : Value := .int .i64 n
abbrev mapB (m : Met) : ABlk := .map (mapC spV ivV m)
section
variable {P : Program} {ρ : Operand → Value} {H : AHeap} {d : Option Tmp} {ty : TypeId} {pos : String} {aft : Array Edge} {g : Option (Nat × Bool)}
variable {α γ : Type} [DecidableEq α] {ke : α → Value} {ve : γ → Value}
theorem ao_mapIns {t kt et : TypeId} {x y u : Operand} {b : Nat} {m : List (α × γ)} {k : α} {v : γ} (hu : P.underlying t = some (.map kt et)) (K : KeyT P kt ke) (hvp : ∀ x, plainV (ve x) = true)
    (hx : ρ x = .map (some b)) (hy : ρ y = ke k) (hv0 : ρ u = ve v) (hk : H.blk b = some (.map (mapC ke ve m))) (hno : mget m k = none) :
    AOd P ⟨d, .insert t x y u, ty, pos, aft, g⟩ ρ H undef (H.set b (.map (mapC ke ve (m ++ [(k, v)])))) := by
  have h := ao_mapPut (d := d) (ty := ty) (pos := pos) (aft := aft) (g := g) hu K hvp hx hy hv0 hk hno
  intro β ρ' w hv hh
  exact h β ρ' w hv hh
theorem ao_look2 {t kt et : TypeId} {x y : Operand} {b : Nat} {m : List (α × γ)} {k : α} {z u : Value} {ok : Bool} (hu : P.underlying t = some (.map kt et)) (K : KeyT P kt ke) (hvp : ∀ x, plainV (ve x) = true)
    (hz : ∀ w, (zeroValue et).run P w = .ok z w) (hzp : plainV z = true) (hx : ρ x = .map (some b)) (hy : ρ y = ke k) (hk : H.blk b = some (.map (mapC ke ve m)))
    (hr : (mget m k = none ∧ u = z ∧ ok = false) ∨ ∃ v, mget m k = some v ∧ u = ve v ∧ ok = true) : AOd P ⟨d, .lookup t x y true, ty, pos, aft, g⟩ ρ H (.tuple #[u, .bool ok]) H := ao_lookup hu K hvp hz hzp hx hy hk hr true
theorem ao_look1 {t kt et : TypeId} {x y : Operand} {b : Nat} {m : List (α × γ)} {k : α} {z u : Value} {ok : Bool} (hu : P.underlying t = some (.map kt et)) (K : KeyT P kt ke) (hvp : ∀ x, plainV (ve x) = true)
    (hz : ∀ w, (zeroValue et).run P w = .ok z w) (hzp : plainV z = true) (hx : ρ x = .map (some b)) (hy : ρ y = ke k) (hk : H.blk b = some (.map (mapC ke ve m)))
    (hr : (mget m k = none ∧ u = z ∧ ok = false) ∨ ∃ v, mget m k = some v ∧ u = ve v ∧ ok = true) : AOd P ⟨d, .lookup t x y false, ty, pos, aft, g⟩ ρ H u H := ao_lookup hu K hvp hz hzp hx hy hk hr false
end
theorem aa_three {P : Program} {ops : Array Oper} {Q : Exit → AFr → AHeap → Prop} {fr : AFr} {H : AHeap} {fuel : Nat} {listed : Array Bool} {i j l : Nat} (hr : Region.ready .any ops listed = [i, j, l]) (h : AAo P ops Q fuel listed fr H i) (k : AAo P ops Q fuel listed fr H j) (m : AAo P ops Q fuel listed fr H l) : AA P ops Q (fuel + 1) listed fr H :=
  aa_all hr (by simp) (by
    intro x hx
    rcases List.mem_cons.mp hx with rfl | hx
    · exact h
    · rcases List.mem_cons.mp hx with rfl | hx
      · exact k
      · rw [List.mem_singleton.mp hx]; exact m)
theorem look_ex (m : Met) (k : Spot) : ∃ (v : Int) (ok : Bool), (mget m k = none ∧ Value.int .i64 v = .int .i64 0 ∧ ok = false) ∨ ∃ v', mget m k = some v' ∧ Value.int .i64 v = ivV v' ∧ ok = true := by
  cases h : mget m k with
  | none => exact ⟨0, false, .inl ⟨rfl, rfl, rfl⟩⟩
  | some v => exact ⟨v, true, .inr ⟨v, rfl, rfl, rfl⟩⟩
theorem look_no {m : Met} {k : Spot} {v : Int} {ok : Bool} (h : (mget m k = none ∧ Value.int .i64 v = .int .i64 0 ∧ ok = false) ∨ ∃ v', mget m k = some v' ∧ Value.int .i64 v = ivV v' ∧ ok = true) (e : ok = false) : mget m k = none := by
  rcases h with ⟨h, _⟩ | ⟨_, _, _, h⟩
  · exact h
  · rw [e] at h; cases h
theorem look_yes {m : Met} {k : Spot} {v : Int} {ok : Bool} (h : (mget m k = none ∧ Value.int .i64 v = .int .i64 0 ∧ ok = false) ∨ ∃ v', mget m k = some v' ∧ Value.int .i64 v = ivV v' ∧ ok = true) (e : ok = true) : mget m k = some v := by
  rcases h with ⟨_, _, h⟩ | ⟨v', h, q, _⟩
  · rw [e] at h; cases h
  · cases q; exact h
theorem fold_pre (n : Int) : ∀ (l : List Spot) (m : Met), ∃ r, l.foldl (put1 n) m = m ++ r := by
  intro l
  induction l with
  | nil => exact fun m => ⟨[], (List.append_nil _).symm⟩
  | cons s l ih =>
    intro m
    obtain ⟨r, hr⟩ := ih (put1 n m s)
    rw [List.foldl_cons, hr]
    unfold put1
    split
    · exact ⟨r, rfl⟩
    · exact ⟨[(s, n + 1)] ++ r, by rw [List.append_assoc]⟩
theorem mget_dist {m : Met} (h : m.Pairwise fun p q => p.1 ≠ q.1) : ∀ {i : Nat} {p : Spot × Int}, m[i]? = some p → mget m p.1 = some p.2 := by
  induction m with
  | nil => intro i p hp; simp at hp
  | cons q m ih =>
    intro i p hp
    rw [List.pairwise_cons] at h
    rw [mget_cons]
    cases i with
    | zero => simp at hp; subst hp; rw [if_pos rfl]
    | succ i =>
      have hp' : m[i]? = some p := by simpa using hp
      rw [if_neg (fun e => h.1 p (List.mem_of_getElem? hp') e.symm)]
      exact ih h.2 hp'
theorem fst_at {m : Met} {i : Nat} {p : Spot × Int} (h : m[i]? = some p) : (m.map Prod.fst)[i]? = some p.1 := by rw [List.getElem?_map, h]; rfl
def half (r : Room) (a : Spot) (i : Nat) (p : Spot × Int) (k : Nat) : Met := ((beside r p.1).take k).foldl (put1 p.2) (bfs r a i)
theorem half_at {r : Room} {a : Spot} {i : Nat} {p : Spot × Int} {k : Nat} (h : (bfs r a i)[i]? = some p) : (half r a i p k)[i]? = some p := by
  obtain ⟨t, ht⟩ := fold_pre p.2 ((beside r p.1).take k) (bfs r a i)
  unfold half
  rw [ht, List.getElem?_append_left (List.getElem?_eq_some_iff.mp h).1, h]
theorem half_good {r : Room} {a : Spot} (ha : isFree r a) {i : Nat} {p : Spot × Int} {k : Nat} (h : (bfs r a i)[i]? = some p) : Good r (half r a i p k) := by
  have hg := bfs_good ha i
  exact (Good.insAll _ hg (hg.pos p (List.mem_of_getElem? h)) fun s hs => beside_free 4 s (List.mem_of_mem_take hs)).1
theorem half_new {r : Room} {a : Spot} {i : Nat} {p : Spot × Int} {k : Nat} {x : Spot} (hx : (beside r p.1)[k]? = some x) (h : mget (half r a i p k) x = none) : half r a i p (k + 1) = half r a i p k ++ [(x, p.2 + 1)] := by
  show List.foldl _ _ _ = _
  rw [← foldl_take hx]; exact ins_new h
theorem half_met {r : Room} {a : Spot} {i : Nat} {p : Spot × Int} {k : Nat} {x : Spot} {v : Int} (hx : (beside r p.1)[k]? = some x) (h : mget (half r a i p k) x = some v) : half r a i p (k + 1) = half r a i p k := by
  show List.foldl _ _ _ = _
  rw [← foldl_take hx]; exact ins_met h
theorem half_end {r : Room} {a : Spot} {i : Nat} {p : Spot × Int} {k : Nat} (h : (bfs r a i)[i]? = some p) (hk : (beside r p.1).length ≤ k) : half r a i p k = bfs r a (i + 1) := by
  show List.foldl _ _ _ = visit r (bfs r a i) i
  unfold visit
  rw [List.take_of_length_le hk, h]
theorem wf_of_free {r : Room} {s : Spot} (h : isFree r s) : wfSpot s := by
  obtain ⟨⟨a1, a2, a3, a4, a5, a6⟩, _⟩ := h
  exact ⟨⟨by omega, by omega⟩, ⟨by omega, by omega⟩⟩
theorem ac_gcm {P : Program} {f : FuncId} {args : List Value} {H : AHeap} {m : Met}
    (h : AC P f args H (fun v H' => Same H.next H H' ∧ ∃ b', H.next ≤ b' ∧ H'.blk b' = some (mapB m) ∧ v = .map (some b'))) : ACd P f args H (.map (some H.next)) (H.push (mapB m)) := by
  refine ac_gcn (ks := [mapB m]) (h.mono ?_)
  rintro v H' ⟨hs, b', hb', hk, rfl⟩
  refine ⟨hs, [b'], rfl, List.nodup_cons.mpr ⟨by simp, List.nodup_nil⟩, ?_, ?_⟩
  · intro i b hb
    match i, hb with
    | 0, hb => simp at hb; omega
    | i + 1, hb => simp at hb
  · intro ρ hρ
    refine ⟨.map _ (hρ 0 b' rfl) (fun B o S es own e => by cases e; rfl), ?_⟩
    intro i b k2 hb hk2
    match i, hb, hk2 with
    | 0, hb, hk2 =>
      simp at hb hk2; subst hb hk2
      refine ⟨_, hk, rfl, fun j p q hp hq => ?_⟩
      rw [hp] at hq; cases hq
      simp only [mapC, List.getElem?_map, Option.map_eq_some_iff] at hp
      obtain ⟨x, _, rfl⟩ := hp
      exact ⟨VR.plain _ rfl, VR.plain _ rfl⟩
    | i + 1, hb, _ => simp at hb
end Go.AW
