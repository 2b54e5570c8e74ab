/- Strings out of slices of bytes. -/
import Derived.Test.YtlcfmbaeaieomaaDoorArg
import Derived.Laws.BytesString
namespace Go.AW
open Go
set_option linter.unusedVariables false

def u8 (n : Int) : List Value := [.int .u8 n]
theorem u8_len (x : Int) : (u8 x).length = 1 := rfl
theorem u8_plain (x : Int) : (u8 x).all plain1 = true := rfl
def strOf (ns : List Int) : ByteArray := ns.foldl (fun r n => r.push (UInt8.ofNat n.toNat)) ByteArray.empty
theorem strOf_snoc (ns : List Int) (n : Int) : strOf (ns ++ [n]) = (strOf ns).push (UInt8.ofNat n.toNat) := by
  unfold strOf; rw [List.foldl_append]; rfl
theorem strOf_size (ns : List Int) : (strOf ns).size = ns.length := by
  have : ∀ (l : List Int) (s : ByteArray), (l.foldl (fun r n => r.push (UInt8.ofNat n.toNat)) s).size = s.size + l.length := by
    intro l
    induction l with
    | nil => intro s; rfl
    | cons a l ih => intro s; rw [List.foldl_cons, ih, ByteArray.size_push, List.length_cons]; omega
  have := this ns ByteArray.empty
  unfold strOf
  simpa using this

section
variable {P : Program} {ρ : Operand → Value} {H : AHeap} {d : Option Tmp} {ty : TypeId} {pos : String} {aft : Array Edge} {g : Option (Nat × Bool)}
theorem vrl_bytes {β : Bt} : ∀ (ns : List Int) (N : List Value), VRL β (fl u8 ns) N → N = ns.map (Value.int .u8) := by
  intro ns
  induction ns with
  | nil => intro N h; cases N with | nil => rfl | cons a N => have := h.1; simp [fl] at this
  | cons n ns ih =>
    intro N h
    cases N with
    | nil => have := h.1; simp [fl, u8] at this
    | cons a N =>
      have h1 : VR β (.int .u8 n) a := VRL.head h
      rw [List.map_cons, ← ih N (VRL.tail h), h1.int_inv]
theorem ao_b2s {src dst e : TypeId} {x : Operand} {v : Value} {ns : List Int} (hs : P.underlying src = some (.slice e)) (he : P.underlying e = some (.int .u8)) (hd : P.underlying dst = some .string)
    (hx : ρ x = v) (h : Sl H u8 1 v ns) : AOd P ⟨d, .convert src dst x, ty, pos, aft, g⟩ ρ H (.string (strOf ns)) H :=
  AO.pure fun β ρ' w hv hh => by
    have q1 := hv x (by simp [Op.operands]); rw [hx] at q1
    obtain ⟨hl, ao, c', N, hN, hvl, hrun⟩ := (h.src u8_len (by decide)).cells (P := P) hh q1
    have hNs := vrl_bytes ns N hvl
    subst hNs
    refine ⟨.string (strOf ns), ?_, .string _⟩
    have key : (convert src dst (ρ' x)).run P w = .ok (.string (strOf ns)) w := by
      rw [hN, run_convert_bytes_string w src dst e ao ns.length c' hs he hd]
      cases ao with
      | none =>
        have h0 : ns = [] := by
          rw [hN] at q1
          rcases h with ⟨_, h⟩ | ⟨b, o, c, rfl, _⟩
          · exact h
          · obtain ⟨_, _, e, _⟩ := q1.slice_inv
            cases e
        subst h0
        simp [Conv.bytesToString, Sem.run_pure, strOf]
      | some a =>
        refine run_bytesToString w a _ c' ns ?_
        have e1 : (Builtin.firstCells 1 ns.length (.slice (some a) ns.length c')).run P w = .ok ((ns.map (Value.int .u8)).toArray) w := by rw [← hN]; exact hrun
        simpa [Builtin.firstCells] using e1
    simp [execOp, go_sem, key]
end
end Go.AW
