/- append of n zero values to nil; the room of nil; a part of nil. -/
import Derived.Test.YtdcmjbaahcipoaaKinds
namespace Go.AW
open Go
set_option linter.unusedVariables false
set_option linter.unusedSimpArgs false

section
variable {P : Program} {Q : Exit → AFr → AHeap → Prop} {fr : AFr} {H H' : AHeap} {ρ : Operand → Value} {g : Option (Nat × Bool)} {d : Option Tmp} {ty : TypeId} {pos : String} {aft : Array Edge}

theorem ao_capN {t e : TypeId} {x : Operand} (hu : P.underlying t = some (.slice e)) (hx : ρ x = .slice none 0 0) :
    AOd P ⟨d, .call ⟨.builtin .cap, #[x], #[t]⟩, ty, pos, aft, g⟩ ρ H (.int .i64 (0 : Nat)) H :=
  AO.pure fun β ρ' w hv hh => by
    have q1 := hv x (by simp [Op.operands, Call.operands]); rw [hx] at q1
    exact ⟨_, by simp [execOp, q1.nil_inv, go_sem, resolve, invoke, builtin, Builtin.cap_, underlying, hu, goInt], .int _ _⟩

theorem ao_sliceN {t e : TypeId} {x hi : Operand} {n : Nat} {k2 : IntKind} (hu : P.underlying t = some (.slice e)) (hn : ∀ w, (sizeOf e).run P w = .ok n w)
    (hx : ρ x = .slice none 0 0) (hhi : ρ hi = .int k2 0) : AOd P ⟨d, .slice t x none (some hi) none, ty, pos, aft, g⟩ ρ H (.slice none 0 0) H :=
  AO.pure fun β ρ' w hv hh => by
    have q1 := hv x (by simp [Op.operands]); rw [hx] at q1
    have q3 := hv hi (by simp [Op.operands]); rw [hhi] at q3
    refine ⟨_, ?_, q1.nil_inv ▸ q1⟩
    simp [execOp, q1.nil_inv, q3.int_inv, go_sem, Instr.sliceAt, Instr.slice, underlying, hu, hn, Instr.sliceBounds, Instr.sliceBound, asIntOf]

theorem run_app_zeros {t tx ty e : TypeId} {i : TypeInfo} {z : Value} {w : World} {kx : IntKind} (ht : P.underlying t = some (.slice e)) (htx : P.underlying tx = some (.int kx)) (hi : P.info? e = some i) (hz : i.zero = some z)
    {n : Nat} (h0 : 0 < n) (hs : 0 < i.size) (h63 : (n : Int) ≤ 4611686018427387904) (hby : n * i.bytes ≤ 140737488355328) :
    (Builtin.append_ #[t, tx] ty #[.slice none 0 0, .int .i64 (n : Int)]).run P w =
      .ok (.slice (some ⟨w.heap.size, 0, none⟩) n (grownCap w n 0 e)) (w.drew.alloc (.cells (Builtin.zeroCells z.cells n ++ Builtin.zeroCells z.cells (grownCap w n 0 e - n)) e)) := by
  have hn : ¬ (n ≤ 0) := by omega
  have hfit := growslice_fits (old := 0) (need := n) (bytes := i.bytes) h0 hby
  have h48' : ¬ (281474976710656 < Builtin.nextslicecap n 0 * i.bytes) := by omega
  have hw : IntKind.i64.wrap (n : Int) = (n : Int) := nw (by show (-9223372036854775808 : Int) ≤ _; omega) (by show _ ≤ (9223372036854775807 : Int); omega)
  have hb2 : ¬ (281474976710656 < (n : Int) * (i.bytes : Int)) := by
    have : ((n * i.bytes : Nat) : Int) ≤ ((140737488355328 : Nat) : Int) := Int.ofNat_le.mpr hby
    rw [Int.natCast_mul] at this
    exact fun q => absurd (Int.lt_of_lt_of_le q this) (by decide)
  have h63' : ¬ ((9223372036854775807 : Int) < (n : Int)) := by omega
  have hneg : ¬ ((n : Int) < 0) := by omega
  have hn0 : n ≠ 0 := by omega
  have hns : n * i.size ≠ 0 := Nat.mul_ne_zero hn0 (by omega)
  simp [Builtin.append_, run_underlying ht, run_underlying htx, sizeOf, typeInfo, zeroValue, hi, hz, Builtin.lenOf, hn, h63', h48', hb2, hneg, hw, hn0, hns, asInt, Question.forced, newRow, grownCap, Builtin.firstCells, go_sem]

theorem vrl_zeroCells {β : Bt} {z : Value} (hz : plainV z = true) (h0 : 0 < z.cells.size) (n : Nat) : VRL β (Builtin.zeroCells z.cells n).toList (Builtin.zeroCells z.cells n).toList := by
  refine vrl_zeros fun v hv => ?_
  simp only [Builtin.zeroCells, Array.mem_map] at hv
  obtain ⟨j, _, rfl⟩ := hv
  have hlt : j % z.cells.size < z.cells.size := Nat.mod_lt _ h0
  rw [getElem!_pos z.cells _ hlt]
  exact (vrl_plain hz).2 (j % z.cells.size) _ _ (by simp [hlt]) (by simp [hlt])

theorem ao_appM {t tx e : TypeId} {s x : Operand} {n size bytes : Nat} {z : Value} {kx : IntKind} (ht : P.underlying t = some (.slice e)) (htx : P.underlying tx = some (.int kx)) (he : Elem P e size bytes) (hzv : ∀ w, (zeroValue e).run P w = .ok z w)
    (hzp : plainV z = true) (hs : ρ s = .slice none 0 0) (hx : ρ x = .int .i64 (n : Int)) (h0 : 0 < n) (hsz : 0 < size) (h63 : (n : Int) ≤ 4611686018427387904) (hby : n * bytes ≤ 140737488355328) :
    AOd P ⟨d, .call ⟨.builtin .append, #[s, x], #[t, tx]⟩, ty, pos, aft, g⟩ ρ H (.slice (some ⟨H.next, 0, none⟩) n (n + 1)) (H.push (.cells (Builtin.zeroCells z.cells n).toList size)) := by
  intro β ρ' w h hh
  have q1 := h s (by simp [Op.operands, Call.operands]); rw [hs] at q1
  have q2 := h x (by simp [Op.operands, Call.operands]); rw [hx] at q2
  obtain ⟨i, z', hi, hz, rfl, rfl, hzs⟩ := he
  have hzz : z' = z := by
    have := hzv w
    simp [zeroValue, typeInfo, hi, hz] at this
    exact this
  subst hzz
  have hr := run_app_zeros (P := P) (ty := ty) (w := w) ht htx hi hz h0 hsz h63 hby
  refine gives_value (app_run (v := .slice (some ⟨w.heap.size, 0, none⟩) n (grownCap w n 0 e)) (by rw [q1.nil_inv, q2.int_inv]; exact hr)) ?_
  have := app_new (n := n) (size := i.size) (e := e) (c' := grownCap w n 0 e) (olds := []) (news := (Builtin.zeroCells z'.cells n).toList) (O := #[]) (N := Builtin.zeroCells z'.cells n) (Z := Builtin.zeroCells z'.cells (grownCap w n 0 e - n)) hh (VRL.nil _) (vrl_zeroCells hzp (by omega) n)
    (by simp [size_zeroCells', hzs]) (grownCap_ge _ _ _ _) (by rw [size_zeroCells', hzs])
  simpa using this
end
/-- A result that leads to one new block, told with fewer cells. -/
theorem ac_gcsP {P : Program} {f : FuncId} {args : List Value} {H : AHeap} {v2 : Value} {cs : List Value} {es : Nat} (hl : ∀ β : Bt, VRL β cs cs)
    (h : AC P f args H (fun v H' => Same H.next H H' ∧ ∃ b' r, H.next ≤ b' ∧ H'.blk b' = some (.cells (cs ++ r) es) ∧ ∀ ρ : Bt, ρ H.next = some (ren b') → VR ρ v2 v)) :
    ACd P f args H v2 (H.push (.cells cs es)) := by
  refine ac_gc h ?_
  rintro v H' ⟨hs, b', r, hb', hk, hv⟩
  have hn : keepB H.next (fun b => bif Nat.beq b H.next then some (ren b') else none) H.next = some (ren b') := by
    rw [keepB_ge _ (Nat.le_refl _), beq_self]; rfl
  refine ⟨v2, H.push (.cells cs es), fun b => bif Nat.beq b H.next then some (ren b') else none, ⟨rfl, rfl⟩, ⟨?_, by rw [next_push]; omega, hv _ hn, fun b hb => ?_, fun b hb => .inl (hs b hb), fun b h1 h2 => ?_, fun b h1 => ?_, fun b1 b2 c _ _ h1 h2 => ?_⟩⟩
  · intro b t hb
    dsimp only at hb
    by_cases e : b = H.next
    · subst e; rw [beq_self] at hb; cases hb; exact ⟨b', rfl⟩
    · rw [beq_ne e] at hb; cases hb
  · rw [blk_push_ne (by omega)]; exact (hs b hb).symm
  · have e : b = H.next := by rw [next_push] at h2; omega
    subst e
    exact ⟨b', _, _, by rw [beq_self]; rfl, hb', blk_push_new _ _, hk, .part (hl _)⟩
  · rw [next_push] at h1; rw [beq_ne (by omega)]; rfl
  · by_cases e1 : b1 = H.next
    · by_cases e2 : b2 = H.next
      · rw [e1, e2]
      · rw [beq_ne e2] at h2; cases h2
    · rw [beq_ne e1] at h1; cases h1
theorem zero63 (n : Nat) (h : (n : Int) ≤ 4611686018427387904) : Value.int .i64 (IntKind.i64.wrap ((n : Int) - 0)) = .int .i64 (n : Int) := by
  rw [Int.sub_zero, nw (by show (-9223372036854775808 : Int) ≤ _; omega) (by show _ ≤ (9223372036854775807 : Int); omega)]
end Go.AW
