/- The rules for calls and for a function's end. -/
import Derived.Test.YtmmmjdbknepjgaaDoorMem
namespace Go.AW
open Go
set_option linter.unusedVariables false
set_option linter.unusedSimpArgs false

def initFr (N : Nat) (args : List Value) : AFr := ⟨N, fun i => args.getD i undef⟩

/-- What a function's end gives. -/
def Ends (P : Program) (fn : Func) (R : Value → AHeap → Prop) : Exit → AFr → AHeap → Prop
  | .normal, fr, H | .ret, fr, H => ∃ v, (∀ (β : Bt) (a : Act) (w : World), FRel β fr a → HRel β H w → ∃ v', (results fn a.tmps).run P w = .ok v' w ∧ VR β v v') ∧ R v H
  | _, _, _ => False

theorem ac_body {P : Program} {f : FuncId} {fn : Func} {c : Code} {args : List Value} {H : AHeap} {R : Value → AHeap → Prop} {N : Nat} (hf : P.funcs[f]? = some fn) (hb : fn.body = some c)
    (hn : fn.ntmps = N) (hl : Nat.ble args.length N = true) (h : AW P c (Ends P fn R) (initFr N args) H) : AC P f args H R := by
  intro β args' w hsz hv hh
  refine calls_of_wp hf hb ?_
  have hl' : args.length ≤ N := Nat.le_of_ble_eq_true hl
  have hfr : FRel β (initFr N args) { tmps := args' ++ Array.replicate (fn.ntmps - args'.size) undef, defers := [] } := by
    refine ⟨rfl, by simp [initFr, hn]; omega, fun i => ?_⟩
    show VR β (args.getD i undef) ((args' ++ Array.replicate (fn.ntmps - args'.size) undef).getD i undef)
    rw [List.getD_eq_getElem?_getD, Array.getD_eq_getD_getElem?, Array.getElem?_append]
    by_cases hi : i < args.length
    · rw [if_pos (by omega)]
      obtain ⟨u, hu⟩ : ∃ u, args[i]? = some u := ⟨_, List.getElem?_eq_getElem hi⟩
      obtain ⟨u', hu'⟩ : ∃ u', args'[i]? = some u' := ⟨_, Array.getElem?_eq_getElem (by omega)⟩
      rw [hu, hu']; exact hv i u u' hu hu'
    · rw [if_neg (by omega), List.getElem?_eq_none (by omega)]
      have : ((Array.replicate (fn.ntmps - args'.size) undef)[i - args'.size]?).getD undef = undef := by
        rw [Array.getElem?_replicate]; split <;> rfl
      rw [this]; exact VR.undef β
  refine wp_mono (h β _ w hfr hh) ?_
  rintro e a' w' ⟨fr', H', β', hq, hf', hh', hst, hnx⟩
  cases e with
  | normal =>
    obtain ⟨v, hres, hR⟩ := hq
    obtain ⟨v', hr, hv'⟩ := hres β' a' w' hf' hh'
    exact ⟨hf'.defers, v', hr, v', rfl, v, H', β', hR, hv', hh', hst, hnx⟩
  | ret =>
    obtain ⟨v, hres, hR⟩ := hq
    obtain ⟨v', hr, hv'⟩ := hres β' a' w' hf' hh'
    exact ⟨hf'.defers, v', hr, v', rfl, v, H', β', hR, hv', hh', hst, hnx⟩
  | exit id => exact hq.elim
  | goto l => exact hq.elim
  | panic c => exact hq.elim
  | outgrown => exact hq.elim

/-- One result variable. -/
def resOne (tmps : Array Value) : ResultVar → Sem Value
  | .tmp t => Pure.pure (tmps.getD t undef)
  | .cell a t => do loadVar t (← asAddr (tmps.getD a undef))

theorem results_eq (fn : Func) (tmps : Array Value) : results fn tmps = (do
    let vs ← fn.results.mapM (resOne tmps)
    Pure.pure (if h : vs.size = 1 then vs[0] else .tuple vs)) := by
  unfold results
  congr 1

def RV (P : Program) (fr : AFr) (H : AHeap) (r : ResultVar) (v : Value) : Prop :=
  ∀ (β : Bt) (a : Act) (w : World), FRel β fr a → HRel β H w → ∃ v', (resOne a.tmps r).run P w = .ok v' w ∧ VR β v v'

section
variable {P : Program} {fr : AFr} {H : AHeap} {fn : Func} {R : Value → AHeap → Prop}

theorem rv_tmp {t : Nat} {v : Value} (h : fr.get t = v) : RV P fr H (.tmp t) v := fun β a w hf hh => ⟨a.tmps.getD t undef, by simp [resOne, go_sem], h ▸ hf.val t⟩

theorem rv_cella {x t b n : Nat} {k : ABlk} {cs : List Value} (ht : ∀ w, (isAgg t).run P w = .ok true w) (hn : ∀ w, (sizeOf t).run P w = .ok n w)
    (hx : fr.get x = .pointer (some ⟨b, 0, none⟩)) (hk : H.blk b = some k) (hr : k.rd = some cs) (hl : cs.length = n) : RV P fr H (.cell x t) (.agg cs.toArray) := by
  intro β a w hf hh
  have h1 := hf.val x; rw [hx] at h1
  obtain ⟨a', ha, hA⟩ := h1.ptr_inv
  obtain ⟨B, off, S, es, own, h2, rfl, hb⟩ := hh.at hA hk
  obtain ⟨C, e, fz, h3, h4, h5, h6⟩ := hb.rd hr
  have hl' : (loadCells ⟨B, off + 0, none⟩ n).run P w = .ok (C.extract (off + 0) (off + 0 + n)) w := run_loadCells h3 n (by omega)
  unfold loadCells at hl'
  simp only [Nat.add_zero] at hl'
  refine ⟨.agg (C.extract (off + 0) (off + 0 + n)), by simp only [resOne, ha]; simp [go_sem, asAddr, loadVar, ht, hn, loadCells, hl'], .agg ?_ ?_⟩
  · simp; omega
  · intro i u u' hu hu'
    simp only [List.getElem?_toArray] at hu
    simp only [Array.getElem?_extract] at hu'
    obtain ⟨y, hy, hV⟩ := h6 i u hu
    split at hu'
    · simp only [Nat.add_zero] at hu'; rw [hy] at hu'; cases hu'; exact hV
    · cases hu'

theorem rv_cell {x t b : Nat} {k : ABlk} {cs : List Value} {v : Value} (ht : ∀ w, (isAgg t).run P w = .ok false w)
    (hx : fr.get x = .pointer (some ⟨b, 0, none⟩)) (hk : H.blk b = some k) (hr : k.rd = some cs) (hv : cs[0]? = some v) : RV P fr H (.cell x t) v := by
  intro β a w hf hh
  have h1 := hf.val x; rw [hx] at h1
  obtain ⟨a', ha, hA⟩ := h1.ptr_inv
  obtain ⟨B, off, S, es, own, h2, rfl, hb⟩ := hh.at hA hk
  obtain ⟨C, e, fz, h3, h4, h5, h6⟩ := hb.rd hr
  obtain ⟨y, hy, hV⟩ := h6 0 v hv
  have hl : w.cell? ⟨B, off + 0, none⟩ = some y := by rw [cell_of h3]; exact hy
  exact ⟨y, by simp only [resOne, ha]; simp [go_sem, asAddr, loadVar, ht]; rw [show off = off + 0 from rfl, hl], hV⟩

theorem ends0 (hr : fn.results = #[]) (hR : R (.tuple #[]) H) : Ends P fn R .ret fr H :=
  ⟨_, fun β a w hf hh => ⟨.tuple #[], by simp [results, hr, go_sem], VR.undef β⟩, hR⟩

theorem ends1 {r1 : ResultVar} {v1 : Value} (hr : fn.results = #[r1]) (h1 : RV P fr H r1 v1) (hR : R v1 H) : Ends P fn R .ret fr H :=
  ⟨_, fun β a w hf hh => by
    obtain ⟨v', e1, k1⟩ := h1 β a w hf hh
    refine ⟨v', ?_, k1⟩
    simp [results_eq, hr, go_sem, e1], hR⟩

theorem ends2 {r1 r2 : ResultVar} {v1 v2 : Value} (hr : fn.results = #[r1, r2]) (h1 : RV P fr H r1 v1) (h2 : RV P fr H r2 v2) (hR : R (.tuple #[v1, v2]) H) : Ends P fn R .ret fr H :=
  ⟨_, fun β a w hf hh => by
    obtain ⟨u1, e1, k1⟩ := h1 β a w hf hh
    obtain ⟨u2, e2, k2⟩ := h2 β a w hf hh
    refine ⟨.tuple #[u1, u2], ?_, .tuple rfl ?_⟩
    · simp [results_eq, hr, go_sem, e1, e2]
    · intro i x y hx hy
      match i, hx, hy with
      | 0, hx, hy => simp at hx hy; subst hx; subst hy; exact k1
      | 1, hx, hy => simp at hx hy; subst hx; subst hy; exact k2
      | i + 2, hx, hy => simp at hx, hR⟩

theorem ends3 {r1 r2 r3 : ResultVar} {v1 v2 v3 : Value} (hr : fn.results = #[r1, r2, r3]) (h1 : RV P fr H r1 v1) (h2 : RV P fr H r2 v2) (h3 : RV P fr H r3 v3)
    (hR : R (.tuple #[v1, v2, v3]) H) : Ends P fn R .ret fr H :=
  ⟨_, fun β a w hf hh => by
    obtain ⟨u1, e1, k1⟩ := h1 β a w hf hh
    obtain ⟨u2, e2, k2⟩ := h2 β a w hf hh
    obtain ⟨u3, e3, k3⟩ := h3 β a w hf hh
    refine ⟨.tuple #[u1, u2, u3], ?_, .tuple rfl ?_⟩
    · simp [results_eq, hr, go_sem, e1, e2, e3]
    · intro i x y hx hy
      match i, hx, hy with
      | 0, hx, hy => simp at hx hy; subst hx; subst hy; exact k1
      | 1, hx, hy => simp at hx hy; subst hx; subst hy; exact k2
      | 2, hx, hy => simp at hx hy; subst hx; subst hy; exact k3
      | i + 3, hx, hy => simp at hx, hR⟩

/-- A contract: one value, one heap. -/
def ACd (P : Program) (f : FuncId) (args : List Value) (H : AHeap) (v : Value) (H' : AHeap) : Prop := AC P f args H (fun v1 H1 => v1 = v ∧ H1 = H')

theorem AC.mono {f : FuncId} {args : List Value} {R' : Value → AHeap → Prop} (h : AC P f args H R) (hr : ∀ v H', R v H' → R' v H') : AC P f args H R' :=
  fun β args' w hs hv hh => (h β args' w hs hv hh).mono fun e w' ⟨v', he, v, H', β', hR, rest⟩ => ⟨v', he, v, H', β', hr _ _ hR, rest⟩

/-- A call of a function that is named. -/
theorem ao_call {f : FuncId} {g : Option (Nat × Bool)} {d : Option Tmp} {ty : TypeId} {pos : String} {aft : Array Edge} {ρ : Operand → Value} {xs : Array Operand} {ts : Array TypeId} {args : List Value}
    (hc : ∀ (args : Array Value) (w : World), (callFunc f args).run P w = .ok (.enter f args) w) (hx : xs.toList.map ρ = args) (h : AC P f args H R)
    (hf : ρ (.func f) = .func (.func f) #[] #[]) :
    AO P ⟨d, .call ⟨.value (.func f), xs, ts⟩, ty, pos, aft, g⟩ ρ H R := by
  intro β ρ' w hv hh
  have hf' : ρ' (.func f) = .func (.func f) #[] #[] := by
    have := hv (.func f) (by simp [Op.operands, Call.operands])
    rw [hf] at this
    generalize ρ' (.func f) = z at this
    cases this with
    | func h1 h1' h2 h2' =>
      rename_i x' y'
      have e1 : x' = #[] := by simpa using h1.symm
      have e2 : y' = #[] := by simpa using h2.symm
      rw [e1, e2]
  have hrun : (execOp ρ' ⟨d, .call ⟨.value (.func f), xs, ts⟩, ty, pos, aft, g⟩).run P w = .ok (.enter f (xs.map ρ')) w := by
    have := hc (xs.map ρ') w
    simp [execOp, go_sem, resolve, hf', Deferred.ofValue, invoke, this]
  refine gives_enter hrun ?_
  refine (h β (xs.map ρ') w (by simp [← hx]) ?_ hh).mono ?_
  · intro i u u' hu hu'
    subst hx
    simp only [List.getElem?_map, Array.getElem?_toList] at hu
    simp only [Array.getElem?_map] at hu'
    cases hx : xs[i]? with
    | none => rw [hx] at hu; simp at hu
    | some x =>
      rw [hx] at hu hu'
      simp only [Option.map_some, Option.some.injEq] at hu hu'
      subst hu; subst hu'
      refine hv x ?_
      have := Array.mem_of_getElem? hx
      simp [Op.operands, Call.operands, this]
  · rintro e w' ⟨v', rfl, hout⟩
    exact ⟨v', rfl, hout⟩

theorem ao_calld {f : FuncId} {g : Option (Nat × Bool)} {d : Option Tmp} {ty : TypeId} {pos : String} {aft : Array Edge} {ρ : Operand → Value} {xs : Array Operand} {ts : Array TypeId} {args : List Value}
    {v : Value} {H' : AHeap} (h : ACd P f args H v H') (hc : ∀ (args : Array Value) (w : World), (callFunc f args).run P w = .ok (.enter f args) w) (hx : xs.toList.map ρ = args)
    (hf : ρ (.func f) = .func (.func f) #[] #[]) :
    AOd P ⟨d, .call ⟨.value (.func f), xs, ts⟩, ty, pos, aft, g⟩ ρ H v H' := ao_call hc hx h hf
end
end Go.AW
