/- The parts of a room, and how they lie. -/
import Derived.Test.YtmmmjdbknepjgaaDoorBfs7
import Derived.Test.YtmmmjdbknepjgaaDoorGb
namespace Go.AW
open Go
set_option linter.unusedVariables false
set_option linter.unusedSectionVars false
def addP (r : Room) (out : List (List Spot)) (x : Spot) : List (List Spot) := if x ∈ out.flatten then out else out ++ [nearL r x 100]
def partsI (r : Room) (i : Nat) : List (List Spot) := ((freeL r).take i).foldl (addP r) []
def partsL (r : Room) : List (List Spot) := (freeL r).foldl (addP r) []
theorem parts_yes {r : Room} {i : Nat} {x : Spot} (hx : (freeL r)[i]? = some x) (h : x ∈ (partsI r i).flatten) : partsI r (i + 1) = partsI r i := by
  unfold partsI; rw [← foldl_take hx]; exact if_pos h
theorem parts_no {r : Room} {i : Nat} {x : Spot} (hx : (freeL r)[i]? = some x) (h : ¬ x ∈ (partsI r i).flatten) : partsI r (i + 1) = partsI r i ++ [nearL r x 100] := by
  unfold partsI; rw [← foldl_take hx]; exact if_neg h
theorem parts_end {r : Room} {i : Nat} (h : (freeL r).length ≤ i) : partsI r i = partsL r := by unfold partsI partsL; rw [List.take_of_length_le h]
structure POk (r : Room) (out : List (List Spot)) : Prop where
  clo : ∀ x ∈ out.flatten, isFree r x ∧ ∀ y, reach r x y → y ∈ out.flatten
  nodup : out.flatten.Nodup
  near : ∀ p ∈ out, ∃ x, isFree r x ∧ p = nearL r x 100
theorem POk.nil (r : Room) : POk r [] := ⟨fun x hx => (by cases hx), List.nodup_nil, fun p hp => (by cases hp)⟩
theorem nearL_nodup (r : Room) (a : Spot) (k : Int) : (nearL r a k).Nodup := ((cellsTo_sorted _ _ _).filter _).imp fun {x y} h e => by subst e; unfold befS at h; omega
theorem reach_free {r : Room} {a s : Spot} (ha : isFree r a) (h : reach r a s) : isFree r s := by obtain ⟨v, hv⟩ := h; exact found_free ha hv
theorem reach_self (r : Room) (a : Spot) : reach r a a := ⟨0, found_self r a⟩
theorem POk.new {r : Room} {out : List (List Spot)} (h : POk r out) {x s : Spot} (hx : isFree r x) (hno : ¬ x ∈ out.flatten) (hs : s ∈ nearL r x 100) : ¬ s ∈ out.flatten := by
  intro hm
  have h1 := (mem_near hx).mp hs
  exact hno ((h.clo s hm).2 x (reach_symm hx h1))
theorem POk.add {r : Room} {out : List (List Spot)} (h : POk r out) {x : Spot} (hx : isFree r x) (hno : ¬ x ∈ out.flatten) : POk r (out ++ [nearL r x 100]) := by
  have e : (out ++ [nearL r x 100]).flatten = out.flatten ++ nearL r x 100 := by simp
  refine ⟨?_, ?_, ?_⟩
  · rw [e]
    intro y hy
    rcases List.mem_append.mp hy with hy | hy
    · exact ⟨(h.clo y hy).1, fun z hz => List.mem_append_left _ ((h.clo y hy).2 z hz)⟩
    · have h1 := (mem_near hx).mp hy
      exact ⟨reach_free hx h1, fun z hz => List.mem_append_right _ ((mem_near hx).mpr (reach_trans hx h1 hz))⟩
  · rw [e]
    refine List.nodup_append.mpr ⟨h.nodup, nearL_nodup _ _ _, fun a ha b hb e => ?_⟩
    subst e
    exact h.new hx hno hb ha
  · intro p hp
    rcases List.mem_append.mp hp with hp | hp
    · exact h.near p hp
    · rw [List.mem_singleton.mp hp]; exact ⟨x, hx, rfl⟩
theorem foldl_ok {r : Room} : ∀ (l : List Spot), (∀ x ∈ l, isFree r x) → ∀ {out : List (List Spot)}, POk r out → POk r (l.foldl (addP r) out) := by
  intro l
  induction l with
  | nil => exact fun _ _ h => h
  | cons x l ih =>
    intro hl out h
    rw [List.foldl_cons]
    refine ih (fun y hy => hl y (by simp [hy])) ?_
    unfold addP
    split
    · exact h
    · rename_i hno; exact h.add (hl x (by simp)) hno
theorem free_mem {r : Room} {x : Spot} (h : x ∈ freeL r) : isFree r x := (freeB_iff r x).mp (List.mem_filter.mp h).2
theorem parts_ok (r : Room) (i : Nat) : POk r (partsI r i) := foldl_ok _ (fun x hx => free_mem (List.mem_of_mem_take hx)) (POk.nil r)
theorem cells_bound {r : Room} {l : List Spot} (hn : l.Nodup) (hf : ∀ x ∈ l, isFree r x) : l.length ≤ 100 := by
  have h : Good r (l.map fun s => (s, (0 : Int))) := by
    refine ⟨fun p hp => ?_, ?_, fun p hp => ?_⟩
    · obtain ⟨s, hs, rfl⟩ := List.mem_map.mp hp; exact hf s hs
    · exact List.Pairwise.map _ (fun _ _ h => h) hn
    · obtain ⟨s, hs, rfl⟩ := List.mem_map.mp hp; simp
  simpa using h.len
theorem POk.flen {r : Room} {out : List (List Spot)} (h : POk r out) : out.flatten.length ≤ 100 := cells_bound h.nodup fun x hx => (h.clo x hx).1
theorem flat_len {out : List (List Spot)} (h : ∀ p ∈ out, p ≠ []) : out.length ≤ out.flatten.length := by
  induction out with
  | nil => simp
  | cons p out ih =>
    have h1 := ih fun q hq => h q (by simp [hq])
    have h2 : 0 < p.length := List.length_pos_iff.mpr (h p (by simp))
    simp only [List.flatten_cons, List.length_append, List.length_cons]; omega
theorem POk.len {r : Room} {out : List (List Spot)} (h : POk r out) : out.length ≤ 100 := by
  refine Nat.le_trans (flat_len fun p hp e => ?_) h.flen
  obtain ⟨x, hx, rfl⟩ := h.near p hp
  have := (mem_near hx).mpr (reach_self r x)
  rw [e] at this; cases this
theorem spots_one (l : List Spot) : (fl spot l).all isOne = true := by
  rw [List.all_eq_true]
  intro v hv
  obtain ⟨x, _, hx⟩ := List.mem_flatMap.mp hv
  unfold spot at hx
  rcases List.mem_cons.mp hx with rfl | hx
  · rfl
  · rw [List.mem_singleton.mp hx]; rfl
theorem parts_flat {r : Room} {i : Nat} {x : Spot} (hx : (freeL r)[i]? = some x) (h : ¬ x ∈ (partsI r i).flatten) : (partsI r (i + 1)).flatten = (partsI r i).flatten ++ nearL r x 100 := by rw [parts_no hx h]; simp
theorem nearL_le {r : Room} {a : Spot} (k : Int) (ha : isFree r a) : (nearL r a k).length ≤ 100 := cells_bound (nearL_nodup r a k) fun x hx => by
  have := (List.mem_filter.mp hx).2
  exact (freeB_iff r x).mp (near_free ha this)
theorem parts_le (r : Room) : (partsL r).length ≤ 100 := by rw [← parts_end (Nat.le_refl _)]; exact (parts_ok r _).len
abbrev bV (b : Bool) : Value := .bool b
def trM (l : List Spot) : List (Spot × Bool) := l.map fun s => (s, true)
abbrev mapT (l : List Spot) : ABlk := .map (mapC spV bV (trM l))
theorem mget_tr (l : List Spot) (x : Spot) : mget (trM l) x = if x ∈ l then some true else none := by
  induction l with
  | nil => rfl
  | cons y l ih =>
    show mget ((y, true) :: trM l) x = _
    rw [mget_cons]
    by_cases h : x = y
    · subst h; simp
    · rw [if_neg h, ih]; simp [h]
theorem look_tr (l : List Spot) (x : Spot) : (mget (trM l) x = none ∧ Value.bool (decide (x ∈ l)) = .bool false ∧ decide (x ∈ l) = false) ∨ ∃ v, mget (trM l) x = some v ∧ Value.bool (decide (x ∈ l)) = bV v ∧ decide (x ∈ l) = true := by
  rw [mget_tr]
  by_cases h : x ∈ l
  · rw [if_pos h, decide_eq_true h]; exact .inr ⟨true, rfl, rfl, rfl⟩
  · rw [if_neg h, decide_eq_false h]; exact .inl ⟨rfl, rfl, rfl⟩
theorem tr_no {l : List Spot} {x : Spot} (h : ¬ x ∈ l) : mget (trM l) x = none := by rw [mget_tr, if_neg h]
theorem tr_take {l q : List Spot} {k : Nat} {y : Spot} (hy : q[k]? = some y) : trM (l ++ q.take k) ++ [(y, true)] = trM (l ++ q.take (k + 1)) := by
  rw [List.take_add_one, hy]; simp [trM]
theorem new_at {r : Room} {i k : Nat} {x y : Spot} (hx : (freeL r)[i]? = some x) (hno : ¬ x ∈ (partsI r i).flatten) (hy : (nearL r x 100)[k]? = some y) : ¬ y ∈ (partsI r i).flatten ++ (nearL r x 100).take k := by
  intro h
  rcases List.mem_append.mp h with h | h
  · exact (parts_ok r i).new (free_at hx) hno (List.mem_of_getElem? hy) h
  · have hn := nearL_nodup r x 100
    obtain ⟨j, hj, e⟩ := List.getElem_of_mem h
    rw [List.length_take] at hj
    have e2 : (nearL r x 100)[j]? = some y := by
      rw [List.getElem_take] at e; rw [List.getElem?_eq_getElem (by omega), e]
    have := (List.getElem?_inj (List.getElem?_eq_some_iff.mp e2).1 hn).mp (e2.trans hy.symm)
    omega
theorem snoc_no {l : List Spot} {i : Nat} {x y : Spot} (hno : ∀ j : Nat, j < i → l[j]? ≠ some x) (hy : l[i]? = some y) (hne : ¬ y.x = x.x ∨ ¬ y.y = x.y) : ∀ j : Nat, j < i + 1 → l[j]? ≠ some x := by
  intro j hj e
  by_cases q : j = i
  · subst q; rw [hy] at e; cases e; exact hne.elim (fun h => h rfl) (fun h => h rfl)
  · exact hno j (by omega) e
/-! ### how they lie -/
def slV (b : Nat) (p : List Spot) : Value := .slice (some ⟨b, 0, none⟩) p.length (p.length + 1)
def slC (bs : List Nat) (out : List (List Spot)) : List Value := List.zipWith slV bs out
structure PH (n : Nat) (G : AHeap) (bs : List Nat) (out : List (List Spot)) : Prop where
  len : bs.length = out.length
  nodup : bs.Nodup
  low : ∀ b ∈ bs, n ≤ b ∧ b < G.next
  at_ : ∀ (j : Nat) b p, bs[j]? = some b → out[j]? = some p → G.blk b = some (.cells (fl spot p) 2)
theorem PH.nil (n : Nat) (G : AHeap) : PH n G [] [] := ⟨rfl, List.nodup_nil, fun b hb => (by cases hb), fun j b p hb => (by simp at hb)⟩
theorem PH.mono {n : Nat} {G G' : AHeap} {bs : List Nat} {out : List (List Spot)} (h : PH n G bs out) (hn : G.next ≤ G'.next) (hb : ∀ b ∈ bs, G'.blk b = G.blk b) : PH n G' bs out :=
  ⟨h.len, h.nodup, fun b hm => ⟨(h.low b hm).1, Nat.lt_of_lt_of_le (h.low b hm).2 hn⟩, fun j b p h1 h2 => by rw [hb b (List.mem_of_getElem? h1)]; exact h.at_ j b p h1 h2⟩
theorem PH.push {n : Nat} {G : AHeap} {bs : List Nat} {out : List (List Spot)} (h : PH n G bs out) (k : ABlk) : PH n (G.push k) bs out :=
  h.mono (by rw [next_push]; omega) fun b hb => blk_push_ne (by have := (h.low b hb).2; omega)
theorem PH.kill {n : Nat} {G : AHeap} {bs : List Nat} {out : List (List Spot)} (h : PH n G bs out) {i : Nat} (hi : ¬ i ∈ bs) : PH n (G.kill i) bs out :=
  h.mono (Nat.le_refl _) fun b hb => blk_kill_ne (fun e => hi (e ▸ hb))
theorem PH.set {n : Nat} {G : AHeap} {bs : List Nat} {out : List (List Spot)} (h : PH n G bs out) {i : Nat} {k : ABlk} (hi : ¬ i ∈ bs) : PH n (G.set i k) bs out :=
  h.mono (Nat.le_refl _) fun b hb => blk_set_ne (fun e => hi (e ▸ hb))
theorem PH.add {n : Nat} {G : AHeap} {bs : List Nat} {out : List (List Spot)} (h : PH n G bs out) {b : Nat} {p : List Spot} (hb : ¬ b ∈ bs) (h1 : n ≤ b) (hk : G.blk b = some (.cells (fl spot p) 2)) : PH n G (bs ++ [b]) (out ++ [p]) := by
  refine ⟨by simp [h.len], List.nodup_append.mpr ⟨h.nodup, by simp, fun x hx y hy e => by rw [List.mem_singleton.mp hy] at e; exact hb (e ▸ hx)⟩, fun c hc => ?_, fun j c q hc hq => ?_⟩
  · rcases List.mem_append.mp hc with hc | hc
    · exact h.low c hc
    · rw [List.mem_singleton.mp hc]; exact ⟨h1, AHeap.lt hk⟩
  · rw [List.getElem?_append] at hc hq
    rw [h.len] at hc
    split at hc
    · rename_i hlt
      rw [if_pos hlt] at hq
      exact h.at_ j c q hc hq
    · rename_i hlt
      rw [if_neg hlt] at hq
      have h0 : j - out.length = 0 := by
        have := (List.getElem?_eq_some_iff.mp hc).1
        simp at this; omega
      rw [h0] at hc hq
      simp at hc hq; subst hc hq; exact hk
theorem slC_snoc {bs : List Nat} {out : List (List Spot)} (h : bs.length = out.length) (b : Nat) (p : List Spot) : slC (bs ++ [b]) (out ++ [p]) = slC bs out ++ [slV b p] := by
  unfold slC; rw [List.zipWith_append h]; rfl
theorem slC_len {bs : List Nat} {out : List (List Spot)} (h : bs.length = out.length) : (slC bs out).length = out.length := by
  unfold slC; rw [List.length_zipWith]; omega
theorem slC_at {bs : List Nat} {out : List (List Spot)} {j b : Nat} {p : List Spot} (h1 : bs[j]? = some b) (h2 : out[j]? = some p) : (slC bs out)[j]? = some (slV b p) := by
  unfold slC; rw [List.getElem?_zipWith, h1, h2]
def pBlks (n : Nat) (out : List (List Spot)) : List ABlk := out.map (fun p => .cells (fl spot p) 2) ++ [.cells (slC (List.range' n out.length) out) 1]
theorem pBlks_len (n : Nat) (out : List (List Spot)) : (pBlks n out).length = out.length + 1 := by simp [pBlks]
def AHeap.addP (H : AHeap) (out : List (List Spot)) : AHeap := H.pushes (pBlks H.next out)
theorem next_addP (H : AHeap) (out : List (List Spot)) : (H.addP out).next = H.next + (out.length + 1) := by unfold AHeap.addP; rw [next_pushes, pBlks_len]
theorem blk_addP_lt {H : AHeap} {out : List (List Spot)} {b : Nat} (h : b < H.next) : (H.addP out).blk b = H.blk b := blk_pushes_old _ _ _ h
theorem blk_addP_old {H : AHeap} {out : List (List Spot)} {b : Nat} {k : ABlk} (h : H.blk b = some k) : (H.addP out).blk b = some k := by rw [blk_addP_lt (AHeap.lt h)]; exact h
theorem Same.addP {n : Nat} {H G : AHeap} (h : Same n H G) (hn : n ≤ G.next) (out : List (List Spot)) : Same n H (G.addP out) := fun i hi => by rw [blk_addP_lt (by omega)]; exact h i hi
theorem PH.weak {n m : Nat} {G : AHeap} {bs : List Nat} {out : List (List Spot)} (h : PH n G bs out) (hm : m ≤ n) : PH m G bs out := ⟨h.len, h.nodup, fun b hb => ⟨Nat.le_trans hm (h.low b hb).1, (h.low b hb).2⟩, h.at_⟩
theorem PH.nx {n : Nat} {G : AHeap} {bs : List Nat} {out : List (List Spot)} (h : PH n G bs out) {b : Nat} (hb : G.next ≤ b) : ¬ b ∈ bs := fun hm => by have := (h.low b hm).2; omega
theorem PH.lo {n : Nat} {G : AHeap} {bs : List Nat} {out : List (List Spot)} (h : PH n G bs out) {b : Nat} (hb : b < n) : ¬ b ∈ bs := fun hm => by have := (h.low b hm).1; omega
theorem not_snoc {bs : List Nat} {a b : Nat} (h : ¬ a ∈ bs) (k : a ≠ b) : ¬ a ∈ bs ++ [b] := fun hm => by
  rcases List.mem_append.mp hm with hm | hm
  · exact h hm
  · exact k (List.mem_singleton.mp hm)
/-- A slice of slices of spots. -/
def Ss (n : Nat) (G : AHeap) (v : Value) (bs : List Nat) (out : List (List Spot)) : Prop := PH n G bs out ∧ ∃ ob c, n ≤ ob ∧ ob < G.next ∧ (¬ ob ∈ bs) ∧ out.length ≤ c ∧ v = .slice (some ⟨ob, 0, none⟩) out.length c ∧ G.blk ob = some (.cells (slC bs out) 1)
abbrev partsV (H : AHeap) (out : List (List Spot)) : Value := .slice (some ⟨H.next + out.length, 0, none⟩) out.length (out.length + 1)
theorem addP_ss (H : AHeap) (out : List (List Spot)) : Ss H.next (H.addP out) (partsV H out) (List.range' H.next out.length) out := by
  have hat : ∀ (j : Nat) b, (List.range' H.next out.length)[j]? = some b → b = H.next + j ∧ j < out.length := by
    intro j b h
    rw [List.getElem?_eq_some_iff] at h
    obtain ⟨h1, h2⟩ := h
    rw [List.getElem_range'] at h2
    rw [List.length_range'] at h1
    exact ⟨by omega, h1⟩
  refine ⟨⟨List.length_range', List.nodup_range', fun b hb => ?_, fun j b p hb hp => ?_⟩, _, _, Nat.le_add_right _ _, ?_, ?_, Nat.le_succ _, rfl, ?_⟩
  · rw [next_addP]
    have := List.mem_range'_1.mp hb; omega
  · obtain ⟨rfl, hj⟩ := hat j b hb
    refine blk_pushes_new _ _ _ _ ?_
    unfold pBlks
    rw [List.getElem?_append_left (by simpa using hj), List.getElem?_map, hp]; rfl
  · rw [next_addP]; omega
  · intro hm; have := List.mem_range'_1.mp hm; omega
  · refine blk_pushes_new _ _ _ _ ?_
    unfold pBlks
    rw [List.getElem?_append_right (by simp)]; simp
theorem ac_gcp {P : Program} {f : FuncId} {args : List Value} {H : AHeap} {out : List (List Spot)} (h : AC P f args H (fun v H' => Same H.next H H' ∧ ∃ bs, Ss H.next H' v bs out)) :
    ACd P f args H (partsV H out) (H.addP out) := by
  refine ac_gcn (ks := pBlks H.next out) (h.mono ?_)
  rintro v H' ⟨hs, bs, hp, ob, c, h1, h2, h3, hc, rfl, h4⟩
  have hbl := hp.len
  refine ⟨hs, bs ++ [ob], by rw [pBlks_len, List.length_append, hbl]; rfl, List.nodup_append.mpr ⟨hp.nodup, by simp, fun x hx y hy e => by rw [List.mem_singleton.mp hy] at e; exact h3 (e ▸ hx)⟩, fun i b hb => ?_, fun ρ hρ => ⟨?_, fun i b k2 hb hk2 => ?_⟩⟩
  · rcases List.mem_append.mp (List.mem_of_getElem? hb) with hb | hb
    · exact (hp.low b hb).1
    · rw [List.mem_singleton.mp hb]; exact h1
  · have e : (bs ++ [ob])[out.length]? = some ob := by rw [← hbl]; simp
    exact vr_sl (hρ _ _ e) hc fun e => by omega
  · rw [List.getElem?_append] at hb
    unfold pBlks at hk2
    rw [List.getElem?_append, List.length_map] at hk2
    rw [hbl] at hb
    split at hb
    · rename_i hlt
      rw [if_pos hlt, List.getElem?_map, Option.map_eq_some_iff] at hk2
      obtain ⟨p, hp1, rfl⟩ := hk2
      exact ⟨_, hp.at_ i b p hb hp1, .cells (vrl_fl spot_plain _ _)⟩
    · rename_i hlt
      rw [if_neg hlt] at hk2
      have h0 : i - out.length = 0 := by
        have := (List.getElem?_eq_some_iff.mp hb).1
        simp at this; omega
      rw [h0] at hb hk2
      simp at hb hk2; subst hb hk2
      refine ⟨_, h4, .cells ⟨by rw [slC_len List.length_range', slC_len hbl], fun j x y hx hy => ?_⟩⟩
      unfold slC at hx hy
      rw [List.getElem?_zipWith] at hx hy
      cases ho : out[j]? with
      | none => rw [ho] at hx; cases h5 : (List.range' H.next out.length)[j]? <;> rw [h5] at hx <;> cases hx
      | some p =>
        have hj := (List.getElem?_eq_some_iff.mp ho).1
        obtain ⟨b2, hb2⟩ : ∃ b2, bs[j]? = some b2 := ⟨_, List.getElem?_eq_getElem (by omega)⟩
        have e1 : (List.range' H.next out.length)[j]? = some (H.next + j) := by
          rw [List.getElem?_eq_getElem (by rw [List.length_range']; exact hj), List.getElem_range', Nat.one_mul]
        rw [ho, e1] at hx
        rw [ho, hb2] at hy
        cases hx; cases hy
        exact vr_sl (hρ j b2 (by rw [List.getElem?_append_left (by omega)]; exact hb2)) (Nat.le_succ _) fun e => by omega
end Go.AW
/- Narrow cells: rooms with a wall more. -/
namespace Go.AW
open Go
set_option linter.unusedVariables false
set_option linter.unusedSectionVars false
section
variable {P : Program} {ops : Array Oper} {Q : Exit → AFr → AHeap → Prop} {m i : Nat} {fr : AFr} {H H1 : AHeap} {o : Oper} {v : Value}
theorem dw_opw (ho : ops[i]? = some o) (hg : o.guard = none) (hd : o.dst.all (fun d => Nat.blt d fr.n) = true) (hs : Same H.next H H1) (hn : H.next ≤ H1.next) (h : AOd P o fr.ev H v H1)
    (hk : DW P ops Q m (i + 1) (fr.putO o.dst v) H1) : DW P ops Q m i fr H :=
  dw_step ho ⟨hd, .inl ⟨by rw [hg]; trivial, h, hs, hn⟩⟩ hk
theorem dw_gyesw {j dj : Nat} {want : Bool} (ho : ops[i]? = some o) (hg : o.guard = some (j, want)) (hdj : dstAt ops j = some dj) (hgt : fr.get dj = .bool want) (hd : o.dst.all (fun d => Nat.blt d fr.n) = true) (hs : Same H.next H H1) (hn : H.next ≤ H1.next) (h : AOd P o fr.ev H v H1)
    (hk : DW P ops Q m (i + 1) (fr.putO o.dst v) H1) : DW P ops Q m i fr H :=
  dw_step ho ⟨hd, .inl ⟨by rw [hg]; exact ⟨dj, hdj, hgt⟩, h, hs, hn⟩⟩ hk
end
theorem row_bits {r : Room} (hr : okRoom r) {y j : Nat} (hy : y < 10) (h : (r.f y).testBit j = true) : (j : Int) < r.w ∧ (y : Int) < r.h := by
  obtain ⟨h1, h2, h3, h4, h5⟩ := hr
  obtain ⟨k1, k2⟩ := h5 y hy
  constructor
  · have : j < r.w.toNat := by
      refine Classical.byContradiction fun hn => ?_
      have := Nat.testBit_lt_two_pow (Nat.lt_of_lt_of_le k1 (Nat.pow_le_pow_right (by decide) (show r.w.toNat ≤ j by omega)))
      rw [h] at this; cases this
    omega
  · refine Classical.byContradiction fun hn => ?_
    rw [k2 (by omega)] at h
    simp at h
theorem wallR_ok {r : Room} {s : Spot} {on : Bool} (hr : okRoom r) (hw : wfRoom r) (hc : isCell r s) : okRoom (wallR r s on) := by
  have hr' := hr
  obtain ⟨h1, h2, h3, h4, h5⟩ := hr
  obtain ⟨c1, c2, c3, c4, c5, c6⟩ := hc
  obtain ⟨d1, d2⟩ := wallR_dims r s on
  refine ⟨by omega, by omega, by omega, by omega, fun y hy => ?_⟩
  have hb : ∀ j, ((wallR r s on).f y).testBit j = true → (j : Int) < r.w ∧ (y : Int) < r.h := by
    intro j hj
    rw [wallR_bit hw.2.2 ⟨c1, c3⟩] at hj
    split at hj
    · rename_i h; omega
    · exact row_bits hr' hy hj
  unfold rowOk
  rw [d1, d2]
  refine ⟨Nat.lt_pow_two_of_testBit _ fun j hj => ?_, fun hh => Nat.eq_of_testBit_eq fun j => ?_⟩
  · cases e : ((wallR r s on).f y).testBit j with
    | false => rfl
    | true => have := hb j e; omega
  · rw [Nat.zero_testBit]
    cases e : ((wallR r s on).f y).testBit j with
    | false => rfl
    | true => have := hb j e; omega
def narrowB (r : Room) (s : Spot) : Bool := freeB r s && decide ((partsL r).length < (partsL (wallR r s true)).length)
def narrowL (r : Room) : List Spot := (allCells r).filter (narrowB r)
theorem narrow_free (r : Room) : (freeL r).filter (narrowB r) = narrowL r := by
  unfold freeL narrowL
  rw [List.filter_filter]
  refine List.filter_congr fun s _ => ?_
  unfold narrowB
  cases freeB r s <;> simp
theorem narrow_at {r : Room} {s : Spot} (h : isFree r s) : narrowB r s = decide ((partsL r).length < (partsL (wallR r s true)).length) := by
  unfold narrowB; rw [(freeB_iff r s).mpr h]; rfl
/-! Default proofs, with parts in the heap. -/
theorem LEq {p : Prop} (h : p := by (first | exact Nat.le_refl _ | omega | (simp only [next_push, next_set, next_kill, next_addP]; omega))) : p := h
theorem HLq {H : AHeap} {b : Nat} {k : Option ABlk} (h : H.blk b = k := by ((repeat (first | exact blk_push_new _ _ | assumption | apply blk_push_old | apply blk_addP_old | apply blk_set_same | refine (blk_set_ne (by first | assumption | omega | (simp only [next_push, next_set, next_kill, next_addP, ne_eq]; omega))).trans ?_ | refine (blk_kill_ne (by first | assumption | omega | (simp only [next_push, next_set, next_kill, next_addP, ne_eq]; omega))).trans ?_)); (first | done | fail))) : H.blk b = k := h
theorem SMq {n : Nat} {H G : AHeap} (h : Same n H G := by (repeat (first | exact Same.refl _ _ | assumption | refine Same.addP ?_ (by (first | exact Nat.le_refl _ | omega | (simp only [next_push, next_set, next_kill, next_addP]; omega))) _ | refine Same.push ?_ (by (first | exact Nat.le_refl _ | omega | (simp only [next_push, next_set, next_kill, next_addP]; omega))) _ | refine Same.set ?_ (by (first | exact Nat.le_refl _ | omega | (simp only [next_push, next_set, next_kill, next_addP]; omega))) _ | refine Same.kill ?_ (by (first | exact Nat.le_refl _ | omega | (simp only [next_push, next_set, next_kill, next_addP]; omega)))))) : Same n H G := h
theorem LNq {p : Prop} (h : p := by first | omega | assumption | (simp only [next_push, next_set, next_kill, next_addP, ne_eq]; omega)) : p := h
end Go.AW
