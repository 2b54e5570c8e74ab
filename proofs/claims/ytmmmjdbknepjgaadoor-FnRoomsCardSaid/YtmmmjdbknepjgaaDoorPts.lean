/- Slices of slices of spots: compared, marked, held. -/
import Derived.Test.YtmmmjdbknepjgaaDoorBfs9
namespace Go.AW
open Go
set_option linter.unusedVariables false
set_option linter.unusedSectionVars false
def oneV (v : Value) : List Value := [v]
theorem oneV_len (v : Value) : (oneV v).length = 1 := rfl
theorem fl_one (l : List Value) : fl oneV l = l := by unfold fl oneV; simp
/-- A slice whose elements are slices of spots. -/
def SS (H : AHeap) (v : Value) (out : List (List Spot)) : Prop := ∃ vs, Sl H oneV 1 v vs ∧ vs.length = out.length ∧ ∀ (i : Nat) x p, vs[i]? = some x → out[i]? = some p → Sl H spot 2 x p
theorem SS.mono {H G : AHeap} {v : Value} {out : List (List Spot)} (h : SS H v out) (hs : Same H.next H G) : SS G v out := by
  obtain ⟨vs, h1, h2, h3⟩ := h
  exact ⟨vs, h1.mono hs, h2, fun i x p hx hp => (h3 i x p hx hp).mono hs⟩
theorem SS.nil {H : AHeap} : SS H (.slice none 0 0) [] := ⟨[], Sl.nil, rfl, fun i x p hx => by simp at hx⟩
theorem SS.zero {H : AHeap} {b o c : Nat} : SS H (.slice (some ⟨b, o, none⟩) 0 c) [] := ⟨[], Sl.zero, rfl, fun i x p hx => by simp at hx⟩
theorem ss_of {n : Nat} {G : AHeap} {bs : List Nat} {out L : List (List Spot)} {ob c : Nat} (hP : PH n G bs L) (hlen : ∀ (j : Nat) p q, out[j]? = some p → L[j]? = some q → q.length = p.length) (hl : L.length = out.length) (hk : G.blk ob = some (.cells (slC bs out) 1)) : SS G (.slice (some ⟨ob, 0, none⟩) out.length c) L := by
  have hbl : bs.length = out.length := hP.len.trans hl
  refine ⟨slC bs out, Sl.full oneV_len hk rfl (fl_one _).symm (slC_len hbl).symm, by rw [slC_len hbl, hl], fun i x q hx hq => ?_⟩
  have hi := (List.getElem?_eq_some_iff.mp hq).1
  obtain ⟨b, hb⟩ : ∃ b, bs[i]? = some b := ⟨_, List.getElem?_eq_getElem (by omega)⟩
  obtain ⟨p, hp⟩ : ∃ p, out[i]? = some p := ⟨_, List.getElem?_eq_getElem (by omega)⟩
  rw [slC_at hb hp] at hx
  cases hx
  unfold slV
  exact Sl.full spot_len (hP.at_ i b q hb hq) rfl rfl (hlen i p q hp hq).symm
theorem Ss.ss {n : Nat} {G : AHeap} {v : Value} {bs : List Nat} {out : List (List Spot)} (h : Ss n G v bs out) : SS G v out := by
  obtain ⟨hP, ob, c, h1, h2, h3, h4, rfl, hk⟩ := h
  exact ss_of hP (fun j p q hp hq => by rw [hp] at hq; cases hq; rfl) rfl hk
theorem Ss.weak {n m : Nat} {G : AHeap} {v : Value} {bs : List Nat} {out : List (List Spot)} (h : Ss n G v bs out) (hm : m ≤ n) : Ss m G v bs out := by
  obtain ⟨hP, ob, c, h1, h2⟩ := h
  exact ⟨hP.weak hm, ob, c, Nat.le_trans hm h1, h2⟩
/-! ### marks -/
def kOf (out : List (List Spot)) (k : Int) (j : Nat) : Int := k + 2 * ((out.take j).flatten.length : Nat)
theorem kOf_zero (out : List (List Spot)) (k : Int) : kOf out k 0 = k := by unfold kOf; simp
theorem kOf_succ {out : List (List Spot)} {k : Int} {j : Nat} {p : List Spot} (h : out[j]? = some p) : kOf out k (j + 1) = kOf out k j + 2 * (p.length : Nat) := by
  unfold kOf
  rw [List.take_add_one, h]
  simp only [Option.toList_some, List.flatten_append, List.length_append, List.flatten_cons, List.flatten_nil, List.append_nil]
  omega
theorem flat_take_le (out : List (List Spot)) (j : Nat) : (out.take j).flatten.length ≤ out.flatten.length := by
  have : (out.take j ++ out.drop j).flatten.length = out.flatten.length := by rw [List.take_append_drop]
  rw [List.flatten_append, List.length_append] at this; omega
theorem kOf_le {out : List (List Spot)} (k : Int) (j : Nat) : k ≤ kOf out k j ∧ kOf out k j ≤ k + 2 * (out.flatten.length : Nat) := by
  have := flat_take_le out j
  unfold kOf; omega
def mkI (out : List (List Spot)) (k : Int) (i : Nat) : List (List Spot) := out.mapIdx fun j p => if j < i then mkSpot (kOf out k j) p.length else p
theorem mkI_len (out : List (List Spot)) (k : Int) (i : Nat) : (mkI out k i).length = out.length := by unfold mkI; simp
theorem mkI_zero (out : List (List Spot)) (k : Int) : mkI out k 0 = out := by
  refine List.ext_getElem? fun j => ?_
  unfold mkI
  rw [List.getElem?_mapIdx]
  cases out[j]? <;> simp
theorem mkI_at {out : List (List Spot)} {k : Int} {i j : Nat} {p : List Spot} (h : out[j]? = some p) : (mkI out k i)[j]? = some (if j < i then mkSpot (kOf out k j) p.length else p) := by
  unfold mkI; rw [List.getElem?_mapIdx, h]; rfl
theorem mkI_pl {out : List (List Spot)} {k : Int} {i j : Nat} {p q : List Spot} (h : out[j]? = some p) (hq : (mkI out k i)[j]? = some q) : q.length = p.length := by
  rw [mkI_at h] at hq; cases hq
  split
  · exact mkSpot_len _ _
  · rfl
theorem mkI_set {out : List (List Spot)} {k : Int} {i : Nat} {p : List Spot} (h : out[i]? = some p) : (mkI out k i).set i (mkSpot (kOf out k i) p.length) = mkI out k (i + 1) := by
  have hi := (List.getElem?_eq_some_iff.mp h).1
  refine List.ext_getElem? fun j => ?_
  rw [List.getElem?_set]
  by_cases e : i = j
  · subst e
    rw [if_pos rfl, if_pos (by rw [mkI_len]; exact hi), mkI_at h, if_pos (by omega)]
  · rw [if_neg e]
    cases hj : out[j]? with
    | none => rw [List.getElem?_eq_none (by rw [mkI_len]; exact List.getElem?_eq_none_iff.mp hj), List.getElem?_eq_none (by rw [mkI_len]; exact List.getElem?_eq_none_iff.mp hj)]
    | some q =>
      rw [mkI_at hj, mkI_at hj]
      by_cases h2 : j < i
      · rw [if_pos h2, if_pos (by omega)]
      · rw [if_neg h2, if_neg (by omega)]
theorem PH.setAt {n : Nat} {G : AHeap} {bs : List Nat} {L : List (List Spot)} (h : PH n G bs L) {i b : Nat} {q : List Spot} (hb : bs[i]? = some b) : PH n (G.set b (.cells (fl spot q) 2)) bs (L.set i q) := by
  have hbl := h.len
  have hi := (List.getElem?_eq_some_iff.mp hb).1
  refine ⟨by rw [List.length_set]; exact h.len, h.nodup, h.low, fun j c p hc hp => ?_⟩
  rw [List.getElem?_set] at hp
  by_cases e : i = j
  · subst e
    rw [if_pos rfl, if_pos (by omega)] at hp
    cases hp
    rw [hb] at hc; cases hc
    obtain ⟨p0, hp0⟩ : ∃ p0, L[i]? = some p0 := ⟨_, List.getElem?_eq_getElem (by omega)⟩
    exact blk_set_same (h.at_ i b p0 hb hp0)
  · rw [if_neg e] at hp
    rw [blk_set_ne]
    · exact h.at_ j c p hc hp
    · intro ec
      subst ec
      have := (List.getElem?_inj hi h.nodup).mp (hb.trans hc.symm)
      exact e this
theorem ac_gcpT {P : Program} {f : FuncId} {args : List Value} {H : AHeap} {out : List (List Spot)} {k : IntKind} {z : Int} (h : AC P f args H (fun v H' => Same H.next H H' ∧ ∃ v1 bs, v = .tuple #[v1, .int k z] ∧ Ss H.next H' v1 bs out)) :
    ACd P f args H (.tuple #[partsV H out, .int k z]) (H.addP out) := by
  refine ac_gcn (ks := pBlks H.next out) (h.mono ?_)
  rintro v H' ⟨hs, v1, bs, rfl, hp, ob, c, h1, h2, h3, hc, rfl, h4⟩
  have hbl := hp.len
  have hat : ∀ ρ : Bt, (∀ (i b : Nat), (bs ++ [ob])[i]? = some b → ρ (H.next + i) = some (ren b)) → VR ρ (partsV H out) (.slice (some ⟨ob, 0, none⟩) out.length c) := by
    intro ρ hρ
    exact vr_sl (hρ _ _ (by rw [← hbl]; simp)) hc fun e => by omega
  refine ⟨hs, bs ++ [ob], by rw [pBlks_len, List.length_append, hbl]; rfl, List.nodup_append.mpr ⟨hp.nodup, by simp, fun x hx y hy e => by rw [List.mem_singleton.mp hy] at e; exact h3 (e ▸ hx)⟩, fun i b hb => ?_, fun ρ hρ => ⟨vr_tup2 (hat ρ hρ) (.int _ _), fun i b k2 hb hk2 => ?_⟩⟩
  · rcases List.mem_append.mp (List.mem_of_getElem? hb) with hb | hb
    · exact (hp.low b hb).1
    · rw [List.mem_singleton.mp hb]; exact h1
  · rw [List.getElem?_append] at hb
    unfold pBlks at hk2
    rw [List.getElem?_append, List.length_map] at hk2
    rw [hbl] at hb
    split at hb
    · rename_i hlt
      rw [if_pos hlt, List.getElem?_map, Option.map_eq_some_iff] at hk2
      obtain ⟨p, hp1, rfl⟩ := hk2
      exact ⟨_, hp.at_ i b p hb hp1, .cells (vrl_fl spot_plain _ _)⟩
    · rename_i hlt
      rw [if_neg hlt] at hk2
      have h0 : i - out.length = 0 := by
        have := (List.getElem?_eq_some_iff.mp hb).1
        simp at this; omega
      rw [h0] at hb hk2
      simp at hb hk2; subst hb hk2
      refine ⟨_, h4, .cells ⟨by rw [slC_len List.length_range', slC_len hbl], fun j x y hx hy => ?_⟩⟩
      unfold slC at hx hy
      rw [List.getElem?_zipWith] at hx hy
      cases ho : out[j]? with
      | none => rw [ho] at hx; cases h5 : (List.range' H.next out.length)[j]? <;> rw [h5] at hx <;> cases hx
      | some p =>
        have hj := (List.getElem?_eq_some_iff.mp ho).1
        obtain ⟨b2, hb2⟩ : ∃ b2, bs[j]? = some b2 := ⟨_, List.getElem?_eq_getElem (by omega)⟩
        have e1 : (List.range' H.next out.length)[j]? = some (H.next + j) := by
          rw [List.getElem?_eq_getElem (by rw [List.length_range']; exact hj), List.getElem_range', Nat.one_mul]
        rw [ho, e1] at hx
        rw [ho, hb2] at hy
        cases hx; cases hy
        exact vr_sl (hρ j b2 (by rw [List.getElem?_append_left (by omega)]; exact hb2)) (Nat.le_succ _) fun e => by omega
/-- What marking leaves. -/
def Marked (H G : AHeap) (n : Nat) (bs : List Nat) (out : List (List Spot)) (k : Int) (i : Nat) : Prop := G.next = H.next ∧ (∀ b, ¬ b ∈ bs → G.blk b = H.blk b) ∧ PH n G bs (mkI out k i)
theorem Marked.start {H : AHeap} {n : Nat} {bs : List Nat} {out : List (List Spot)} (k : Int) (h : PH n H bs out) : Marked H H n bs out k 0 := ⟨rfl, fun _ _ => rfl, by rw [mkI_zero]; exact h⟩
theorem Marked.at_ {H G : AHeap} {n : Nat} {bs : List Nat} {out : List (List Spot)} {k : Int} {i b : Nat} {p : List Spot} (h : Marked H G n bs out k i) (hb : bs[i]? = some b) (hp : out[i]? = some p) : G.blk b = some (.cells (fl spot p) 2) :=
  h.2.2.at_ i b p hb (by rw [mkI_at hp, if_neg (Nat.lt_irrefl i)])
theorem Marked.step {H G : AHeap} {n : Nat} {bs : List Nat} {out : List (List Spot)} {k : Int} {i b : Nat} {p : List Spot} (h : Marked H G n bs out k i) (hb : bs[i]? = some b) (hp : out[i]? = some p) : Marked H (G.set b (.cells (fl spot (mkSpot (kOf out k i) p.length)) 2)) n bs out k (i + 1) := by
  obtain ⟨h1, h2, h3⟩ := h
  refine ⟨h1, fun c hc => ?_, by rw [← mkI_set hp]; exact h3.setAt hb⟩
  rw [blk_set_ne (fun e => hc (by rw [e]; exact List.mem_of_getElem? hb))]
  exact h2 c hc
theorem Marked.ss {H G : AHeap} {n : Nat} {bs : List Nat} {out : List (List Spot)} {k : Int} {i ob c : Nat} (h : Marked H G n bs out k i) (hk : H.blk ob = some (.cells (slC bs out) 1)) (hob : ¬ ob ∈ bs) : SS G (.slice (some ⟨ob, 0, none⟩) out.length c) (mkI out k i) :=
  ss_of h.2.2 (fun j p q hp hq => mkI_pl hp hq) (mkI_len _ _ _) (by rw [h.2.1 ob hob]; exact hk)
theorem Marked.same {H G : AHeap} {n m : Nat} {bs : List Nat} {out : List (List Spot)} {k : Int} {i : Nat} (h : Marked H G n bs out k i) (hm : m ≤ n) : Same m H G := fun b hb => h.2.1 b (h.2.2.lo (by omega))
theorem parts_okL (r : Room) : POk r (partsL r) := by rw [← parts_end (Nat.le_refl _)]; exact parts_ok r _
theorem parts_each (r : Room) : ∀ p ∈ partsL r, p.length ≤ 100 := by
  intro p hp
  obtain ⟨x, hx, rfl⟩ := (parts_okL r).near p hp
  exact nearL_le 100 hx
theorem parts_flen (r : Room) : (partsL r).flatten.length ≤ 100 := (parts_okL r).flen
theorem addP_all (H : AHeap) (out : List (List Spot)) : PH H.next (H.addP out) (List.range' H.next out.length) out ∧ (H.addP out).blk (H.next + out.length) = some (.cells (slC (List.range' H.next out.length) out) 1) ∧ ¬ (H.next + out.length) ∈ List.range' H.next out.length := by
  obtain ⟨hP, ob, c, _, _, hn, _, hv, hk⟩ := addP_ss H out
  have e : ob = H.next + out.length := by
    injection hv with h1 _ _
    injection h1 with h1
    injection h1 with h1 _ _
    exact h1.symm
  subst e
  exact ⟨hP, hk, hn⟩
end Go.AW
