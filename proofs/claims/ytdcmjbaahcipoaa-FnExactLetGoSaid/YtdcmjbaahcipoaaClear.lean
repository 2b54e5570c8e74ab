/- Writing in place: append that fits, slices up to the capacity, clear. -/
import Derived.Test.YtdcmjbaahcipoaaDag2
import Derived.Test.YtdcmjbaahcipoaaAppM
namespace Go.AW
open Go
set_option linter.unusedVariables false
set_option linter.unusedSectionVars false
set_option linter.unusedSimpArgs false
/-- Where a block of cells lies. -/
theorem SR.live {β : Bt} {H : AHeap} {w : World} (hh : HRel β H w) {b o n c c' es : Nat} {a' : Addr} {cs : List Value} (hS : SR β ⟨b, o, none⟩ a' n c c') (hk : H.blk b = some (.cells cs es)) :
    ∃ B off S, β b = some (.live B off S es true) := by
  obtain ⟨_, _, _, _, t', s5, s6⟩ := hS
  cases t' with
  | stale => have := hh.stale b s5; rw [hk] at this; cases this
  | live B off S es own =>
    obtain ⟨k, hk', hr⟩ := hh.rel b B off S es own s5
    rw [hk] at hk'; cases hk'
    obtain ⟨_, _, _, _, _, _, _, ho, hz, _⟩ := hr
    subst ho; subst hz
    exact ⟨B, off, S, s5⟩
/-- The reach of what a capacity says. -/
theorem SR.grow {β : Bt} {b o n N c' B off S es : Nat} {a' : Addr} (hb : β b = some (.live B off S es true)) (hS : SR β ⟨b, o, none⟩ a' n (N + 1) c') (h : n < N) {m : Nat} (hm : m ≤ N) : SR β ⟨b, o, none⟩ a' m (N + 1) c' ∧ N ≤ c' ∧ a' = ⟨B, off + o, none⟩ := by
  obtain ⟨s1, s2, s3, s4, t', s5, s6⟩ := hS
  rw [show (⟨b, o, none⟩ : Addr).block = b from rfl, hb] at s5; cases s5
  obtain ⟨k1, k2, k3⟩ := s6 B off S es true rfl
  have hN := (k3 (by omega)).1 rfl
  rcases k2 with ⟨k2, k4⟩ | ⟨k2, k4⟩
  · omega
  refine ⟨⟨s1, s2, by omega, fun e => by omega, _, hb, fun B1 o1 S1 es1 own1 e => ?_⟩, by omega, ?_⟩
  · cases e
    exact ⟨k1, .inr ⟨k2, k4⟩, fun _ => ⟨fun _ => hN, fun e => by cases e⟩⟩
  · obtain ⟨x1, x2, x3⟩ := a'
    simp only at k1 k2 s2
    subst k1; subst k2; subst s2; rfl
section
variable {P : Program} {ρ : Operand → Value} {H : AHeap} {d : Option Tmp} {ty : TypeId} {pos : String} {aft : Array Edge} {g : Option (Nat × Bool)}
/-- x[:h] of a slice of one's own: the room is kept. -/
theorem ao_sliceHiC {t e : TypeId} {x hi : Operand} {b o len c n es h : Nat} {k2 : IntKind} {j : Int} {cs : List Value} (hu : P.underlying t = some (.slice e)) (hn : ∀ w, (sizeOf e).run P w = .ok n w)
    (hx : ρ x = .slice (some ⟨b, o, none⟩) len c) (hhi : ρ hi = .int k2 j) (hj' : j = (h : Int)) (hk : H.blk b = some (.cells cs es)) (h2 : h ≤ len) :
    AOd P ⟨d, .slice t x none (some hi) none, ty, pos, aft, g⟩ ρ H (.slice (some ⟨b, o, none⟩) h (len + 1)) H :=
  AO.pure fun β ρ' w hv hh => by
    have q1 := hv x (by simp [Op.operands]); rw [hx] at q1
    have q3 := hv hi (by simp [Op.operands]); rw [hhi] at q3
    obtain ⟨a', c', ha, hA⟩ := q1.slice_inv
    obtain ⟨B, off, S, hb⟩ := hA.live hh hk
    obtain ⟨s1, s2, s3, s4, t', s5, s6⟩ := hA
    rw [show (⟨b, o, none⟩ : Addr).block = b from rfl, hb] at s5; cases s5
    obtain ⟨p1, p2, p3⟩ := s6 B off S es true rfl
    refine ⟨.slice (some a') h c', ?_, .slice ⟨s1, s2, by omega, fun e => by omega, _, hb, fun B1 o1 S1 es1 own1 e => ?_⟩⟩
    · subst hj'
      simp [execOp, ha, q3.int_inv, go_sem, Instr.sliceAt, Instr.slice, underlying, hu, hn, Instr.sliceBounds, Instr.sliceBound, asIntOf, show h ≤ c' by omega]
    · cases e
      refine ⟨p1, ?_, fun _ => ⟨fun _ => by omega, fun e => by cases e⟩⟩
      rcases p2 with ⟨p2, p4⟩ | p2
      · exact .inl ⟨by omega, p4⟩
      · exact .inr p2
/-- x[l:h:m]. -/
theorem ao_slice3 {t e : TypeId} {x lo hi mx : Operand} {b o len c n l h m : Nat} {k1 k2 k3 : IntKind} {i j q : Int} {cs : List Value} (hu : P.underlying t = some (.slice e)) (hn : ∀ w, (sizeOf e).run P w = .ok n w)
    (hx : ρ x = .slice (some ⟨b, o, none⟩) len c) (hlo : ρ lo = .int k1 i) (hhi : ρ hi = .int k2 j) (hmx : ρ mx = .int k3 q) (hi' : i = (l : Int)) (hj' : j = (h : Int)) (hq' : q = (m : Int)) (hk : H.blk b = some (.cells cs n))
    (h1 : l ≤ h) (h2 : h ≤ m) (h3 : m ≤ len) (h4 : l < m) :
    AOd P ⟨d, .slice t x (some lo) (some hi) (some mx), ty, pos, aft, g⟩ ρ H (.slice (some ⟨b, o + l * n, none⟩) (h - l) (h - l + 1)) H :=
  AO.pure fun β ρ' w hv hh => by
    have q1 := hv x (by simp [Op.operands]); rw [hx] at q1
    have q2 := hv lo (by simp [Op.operands]); rw [hlo] at q2
    have q3 := hv hi (by simp [Op.operands]); rw [hhi] at q3
    have q4 := hv mx (by simp [Op.operands]); rw [hmx] at q4
    obtain ⟨a', c', ha, hA⟩ := q1.slice_inv
    obtain ⟨B, off, S, hb⟩ := hA.live hh hk
    obtain ⟨s1, s2, s3, s4, t', s5, s6⟩ := hA
    rw [show (⟨b, o, none⟩ : Addr).block = b from rfl, hb] at s5; cases s5
    obtain ⟨p1, p2, p3⟩ := s6 B off S n true rfl
    have hA2 : SR β ⟨b, o, none⟩ a' m (m + 1) m := by
      refine ⟨s1, s2, Nat.le_refl _, fun e => rfl, _, hb, fun B1 o1 S1 es1 own1 e => ?_⟩
      cases e
      refine ⟨p1, ?_, fun e => by omega⟩
      rcases p2 with ⟨p2, p4⟩ | ⟨p2, p4⟩
      · omega
      · have hm : m * n ≤ c' * n := Nat.mul_le_mul_right _ (by omega)
        exact .inr ⟨p2, fun e => by have := p4 e; omega⟩
    have hp := hA2.part hh hk (n := n) rfl h1 h2 (c2 := h - l + 1) (fun e => by omega)
    refine ⟨_, ?_, hp⟩
    subst hi'; subst hj'; subst hq'
    simp [execOp, ha, q2.int_inv, q3.int_inv, q4.int_inv, go_sem, Instr.sliceAt, Instr.slice, underlying, hu, hn, Instr.sliceBounds, Instr.sliceBound, asIntOf, show m ≤ c' by omega, h1, h2]
/-- x[l:h] beyond the length, up to the capacity. -/
theorem ao_sliceOver {t e : TypeId} {x lo hi : Operand} {b o len N n l h : Nat} {k1 k2 : IntKind} {i j : Int} {cs : List Value} (hu : P.underlying t = some (.slice e)) (hn : ∀ w, (sizeOf e).run P w = .ok n w)
    (hx : ρ x = .slice (some ⟨b, o, none⟩) len (N + 1)) (hlo : ρ lo = .int k1 i) (hhi : ρ hi = .int k2 j) (hi' : i = (l : Int)) (hj' : j = (h : Int)) (hk : H.blk b = some (.cells cs n)) (hlt : len < N) (h1 : l ≤ h) (h2 : h ≤ N) :
    AOd P ⟨d, .slice t x (some lo) (some hi) none, ty, pos, aft, g⟩ ρ H (.slice (some ⟨b, o + l * n, none⟩) (h - l) (h - l + 1)) H :=
  AO.pure fun β ρ' w hv hh => by
    have q1 := hv x (by simp [Op.operands]); rw [hx] at q1
    have q2 := hv lo (by simp [Op.operands]); rw [hlo] at q2
    have q3 := hv hi (by simp [Op.operands]); rw [hhi] at q3
    obtain ⟨a', c', ha, hA⟩ := q1.slice_inv
    obtain ⟨B, off, S, hb⟩ := hA.live hh hk
    obtain ⟨hA2, hN, _⟩ := hA.grow hb hlt (Nat.le_refl N)
    refine ⟨_, ?_, hA2.part hh hk (n := n) rfl h1 h2 (c2 := h - l + 1) (fun e => by omega)⟩
    subst hi'; subst hj'
    simp [execOp, ha, q2.int_inv, q3.int_inv, go_sem, Instr.sliceAt, Instr.slice, underlying, hu, hn, Instr.sliceBounds, Instr.sliceBound, asIntOf, show h ≤ c' by omega, h1]
/-- append where there is room: in place. -/
theorem ao_appFit {t tx e : TypeId} {s x : Operand} {b o n N m size bytes : Nat} {xv : Value} {news cs : List Value} (ht : P.underlying t = some (.slice e)) (htx : ∃ e2, P.underlying tx = some (.slice e2)) (he : Elem P e size bytes)
    (hs : ρ s = .slice (some ⟨b, o, none⟩) n (N + 1)) (hx : ρ x = xv) (hk : H.blk b = some (.cells cs size)) (hsrc : Src H size xv m news) (hone : news.all isOne = true) (hlt : n < N) (hm : n + m ≤ N) (hl : o + N * size ≤ cs.length) :
    AOd P ⟨d, .call ⟨.builtin .append, #[s, x], #[t, tx]⟩, ty, pos, aft, g⟩ ρ H (.slice (some ⟨b, o, none⟩) (n + m) (N + 1)) (H.set b (.cells (writeL cs (o + n * size) news) size)) := by
  intro β ρ' w h hh
  have q1 := h s (by simp [Op.operands, Call.operands]); rw [hs] at q1
  have q2 := h x (by simp [Op.operands, Call.operands]); rw [hx] at q2
  obtain ⟨i, z, hi, hz, rfl, rfl, hzs⟩ := he
  obtain ⟨a', c', hsv, hS⟩ := q1.slice_inv
  obtain ⟨B, off, S, hb⟩ := hS.live hh hk
  obtain ⟨hS2, hN, rfl⟩ := hS.grow hb hlt hm
  obtain ⟨hl2, ao, cx, Ns, hxv, hNs, hrun⟩ := hsrc.cells (P := P) hh q2
  rw [hxv] at hrun
  have hroom : (n + m) * i.size ≤ N * i.size := Nat.mul_le_mul_right _ hm
  rw [Nat.add_mul] at hroom
  obtain ⟨w', r1, r2, r3⟩ := HRel.writes P hb news Ns (o + n * i.size) 0 hh hk (by rw [hl2]; omega) hNs (fun u hu => List.all_eq_true.mp hone u hu)
  have hadd : (⟨B, off + o, none⟩ : Addr).add (n * i.size) = ⟨B, off + (o + n * i.size), none⟩ := by rw [add_none rfl]; simp only; congr 1; omega
  have hr : (Builtin.append_ #[t, tx] ty #[.slice (some ⟨B, off + o, none⟩) n c', .slice ao m cx]).run P w = .ok (.slice (some ⟨B, off + o, none⟩) (n + m) c') w' :=
    run_app_fits (a := some ⟨B, off + o, none⟩) (n := n) (c := c') ht htx hi hrun (by omega) (fun ad e => by cases e; rw [hadd]; exact r1) (fun e => by cases e)
  exact gives_value (app_run (v := .slice (some ⟨B, off + o, none⟩) (n + m) c') (by rw [hsv, hxv]; exact hr)) ⟨_, _, β, ⟨rfl, rfl⟩, .slice hS2, r2, r3, Nat.le_refl _⟩
end
section
variable {P : Program} {ρ : Operand → Value} {H : AHeap} {d : Option Tmp} {ty : TypeId} {pos : String} {aft : Array Edge} {g : Option (Nat × Bool)}
/-- clear of a slice of one's own. -/
theorem ao_clear {α : Type} {el : α → List Value} {z0 : α} {t e : TypeId} {x : Operand} {b o n c es size : Nat} {z : Value} {cs : List Value} (ht : P.underlying t = some (.slice e)) (hz : ∀ w, (zeroValue e).run P w = .ok z w) (he : el z0 = z.cells.toList)
    (hsz : z.cells.size = size) (hpl : (el z0).all plain1 = true) (hon : (el z0).all isOne = true) (hx : ρ x = .slice (some ⟨b, o, none⟩) n c) (hk : H.blk b = some (.cells cs es)) (hl : o + n * size ≤ cs.length) :
    AOd P ⟨d, .call ⟨.builtin .clear, #[x], #[t]⟩, ty, pos, aft, g⟩ ρ H (.tuple #[]) (H.set b (.cells (writeL cs o (fl el (List.replicate n z0))) es)) := by
  intro β ρ' w h hh
  have h1 := h x (by simp [Op.operands, Call.operands]); rw [hx] at h1
  obtain ⟨a', c', ha, hS⟩ := h1.slice_inv
  have hrun : ∀ w', (Builtin.clear_ #[t] ty #[ρ' x]).run P w = .ok (.tuple #[]) w' → (execOp ρ' ⟨d, .call ⟨.builtin .clear, #[x], #[t]⟩, ty, pos, aft, g⟩).run P w = .ok (.value (.tuple #[])) w' := by
    intro w' hr
    have : (execOp ρ' ⟨d, .call ⟨.builtin .clear, #[x], #[t]⟩, ty, pos, aft, g⟩).run P w = ((Builtin.clear_ #[t] ty #[ρ' x]).run P w).andThen fun v w => .ok (.value v) w := by
      simp only [execOp, resolve]
      rw [Sem.run_bind]
      simp only [Sem.run_pure, Result.andThen_ok, invoke, builtin, List.map_toArray, List.map_cons, List.map_nil]
      rw [Sem.run_bind]; rfl
    rw [this, hr]; rfl
  have htup : VR β (.tuple #[]) (.tuple #[]) := .tuple rfl (by intro i u u' hu; simp at hu)
  by_cases h0 : n = 0
  · subst h0
    have e0 : writeL cs o (fl el (List.replicate 0 z0)) = cs := rfl
    rw [e0, set_self hk]
    refine gives_value (hrun w ?_) ⟨_, H, β, ⟨rfl, rfl⟩, htup, hh, Step.refl _ _ _, Nat.le_refl _⟩
    rw [ha]
    unfold Builtin.clear_
    simp [run_underlying ht]
  · have hA := hS.addr (by omega)
    obtain ⟨B, off, S, es', own, hb, rfl, hbr⟩ := hh.at hA hk
    obtain ⟨C, e', fz, g1, g2, g3, g4, g5, g6, g7⟩ := hbr
    subst g5; subst g6
    have hzc : (Builtin.zeroCells z.cells n).toList = fl el (List.replicate n z0) := by
      have := made_fl (el := el) (z0 := z0) (zs := z.cells) (es := z.cells.size) rfl he n
      rw [← this]; rfl
    have hlen : (fl el (List.replicate n z0)).length = n * size := by rw [← hzc]; simp [Builtin.zeroCells, hsz]
    have hmem : ∀ v ∈ fl el (List.replicate n z0), v ∈ el z0 := by
      intro v hv
      obtain ⟨y, hy, hvy⟩ := List.mem_flatMap.mp hv
      rw [List.eq_of_mem_replicate hy] at hvy; exact hvy
    have hvl : VRL β (fl el (List.replicate n z0)) (fl el (List.replicate n z0)) := ⟨rfl, fun i u v hu hv => by
      rw [hu] at hv; cases hv
      exact VR.plain1 β (List.all_eq_true.mp hpl u (hmem u (List.mem_of_getElem? hu)))⟩
    obtain ⟨w', r1, r2, r3⟩ := HRel.writes P hb (fl el (List.replicate n z0)) (fl el (List.replicate n z0)) o 0 hh hk (by rw [hlen]; omega) hvl (fun u hu => List.all_eq_true.mp hon u (hmem u hu))
    refine gives_value (hrun w' ?_) ⟨_, _, β, ⟨rfl, rfl⟩, htup, r2, r3, Nat.le_refl _⟩
    rw [ha]
    obtain ⟨m, rfl⟩ : ∃ m, n = m + 1 := ⟨n - 1, by omega⟩
    unfold Builtin.clear_
    simp [run_underlying ht, Sem.run_bind, hz, hzc]
    have r1' : (storeCells ⟨B, off + o, none⟩ (fl el (List.replicate (m + 1) z0))).run P w = .ok () w' := r1
    rw [r1']; rfl
end
/-- A value that names one old block, whose cells have turned. -/
theorem ac_gc1s {P : Program} {f : FuncId} {args : List Value} {H : AHeap} {v : Value} {b0 : Nat} {cs : List Value} {es : Nat} (hp : ∀ ρ : Bt, ρ b0 = some (ren b0) → VR ρ v v) (hl : ∀ β : Bt, VRL β cs cs) (hb0 : ∃ k, H.blk b0 = some k)
    (h : AC P f args H (fun v' H' => v' = v ∧ Same H.next (H.set b0 (.cells cs es)) H')) : ACd P f args H v (H.set b0 (.cells cs es)) := by
  refine ac_gc h ?_
  rintro v' H' ⟨rfl, hs⟩
  obtain ⟨k, hk⟩ := hb0
  refine ⟨v', H.set b0 (.cells cs es), noB, ⟨rfl, rfl⟩, ⟨(fun b t hb => by cases hb), Nat.le_refl _, hp _ (keepB_lt _ (AHeap.lt hk)), fun b hb => (hs b hb).symm, fun b hb => ?_, (fun b h1 h2 => by rw [next_set] at h2; omega), fun b _ => rfl, (fun b1 b2 b' _ _ h => by cases h)⟩⟩
  by_cases e : b = b0
  · subst e
    exact .inr ⟨cs, es, by rw [hs b hb]; exact blk_set_same hk, hl⟩
  · exact .inl (by rw [hs b hb]; exact blk_set_ne e)
theorem Same.reset {n : Nat} {H G : AHeap} {b : Nat} {k k1 k2 : ABlk} (hk : H.blk b = some k) (hb : b < n) (h : Same n (H.set b k1) G) : Same n (H.set b k2) (G.set b k2) := by
  intro j hj
  by_cases e : j = b
  · subst e
    rw [blk_set_same ((h j hj).trans (blk_set_same hk)), blk_set_same hk]
  · rw [blk_set_ne e, blk_set_ne e, h j hj, blk_set_ne e]
/-! ### one element is let go -/
def letL {α : Type} (l : List α) (i : Nat) : List α := l.take i ++ l.drop (i + 1)
theorem letL_len {α : Type} {l : List α} {i : Nat} (h : i < l.length) : (letL l i).length = l.length - 1 := by
  unfold letL; rw [List.length_append, List.length_take, List.length_drop]; omega
theorem letL_write {α : Type} {e : α → List Value} {es : Nat} (he : ∀ x, (e x).length = es) {l : List α} {i : Nat} (h : i < l.length) :
    writeL (fl e l) (0 + i * es) (fl e (l.drop (i + 1))) = fl e (letL l i ++ l.drop (l.length - 1)) := by
  have e1 : i * es + (l.length - (i + 1)) * es = (l.length - 1) * es := by rw [← Nat.add_mul]; congr 1; omega
  have e2 : (l.length - 1) * es ≤ l.length * es := Nat.mul_le_mul_right _ (by omega)
  rw [Nat.zero_add, writeL_eq _ _ _ (by rw [fl_len he, fl_len he, List.length_drop, e1]; exact e2), fl_take he, fl_len he, List.length_drop, e1, fl_drop he]
  unfold letL
  rw [fl_app, fl_app]
theorem letL_clear {α : Type} {e : α → List Value} {es : Nat} (he : ∀ x, (e x).length = es) {l : List α} {i : Nat} (h : i < l.length) (z : α) :
    writeL (fl e (letL l i ++ l.drop (l.length - 1))) (0 + (l.length - 1) * es) (fl e (List.replicate (l.length - (l.length - 1)) z)) = fl e (letL l i ++ [z]) := by
  have hl := letL_len h
  have e0 : l.length - (l.length - 1) = 1 := by omega
  have e1 : (letL l i ++ l.drop (l.length - 1)).length = l.length := by rw [List.length_append, hl, List.length_drop]; omega
  have e2 : (l.length - 1) * es + 1 * es = l.length * es := by rw [← Nat.add_mul]; congr 1; omega
  rw [e0, Nat.zero_add, writeL_eq _ _ _ (by rw [fl_len he, fl_len he, e1]; simp only [List.length_replicate]; omega), fl_take he, fl_len he, List.length_replicate, e2]
  rw [List.drop_eq_nil_of_le (as := fl e (letL l i ++ l.drop (l.length - 1))) (by rw [fl_len he, e1]; exact Nat.le_refl _), List.append_nil, ← fl_app]
  rw [List.take_append_of_le_length (by omega), List.take_of_length_le (by omega)]
  rfl
end Go.AW
