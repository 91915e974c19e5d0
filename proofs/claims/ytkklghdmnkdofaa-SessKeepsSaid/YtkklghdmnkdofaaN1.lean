/- Whichever of several operations comes up. -/
import Derived.Test.YtkklghdmnkdofaaN0
namespace Go.Proofs.Ytkklghdmnkdofaa

section
variable {P : Program} {ops : Array Oper} {Q : Exit → Act → World → Prop} {md : Region.Mode} {S : World → Prop} {st : Nat}

def AllL (P : Program) (md : Region.Mode) (ops : Array Oper) (Q : Exit → Act → World → Prop) (S : World → Prop) (st n : Nat) (l : Array Bool) (a : Act) (w : World) (rs : List Nat) : Prop :=
  ∀ i ∈ rs, wpOp P ops Q i (fun b v => (i ≠ st → S v) ∧ anyL P md ops Q S st n (l.setIfInBounds i true) b v) a w

theorem AllL.nil {n : Nat} {l : Array Bool} {a : Act} {w : World} : AllL P md ops Q S st n l a w [] := fun _ h => by cases h
theorem AllL.cons {n : Nat} {l : Array Bool} {a : Act} {w : World} {i : Nat} {o : Oper} {rs : List Nat} (ho : ops[i]? = some o)
    (h : ∀ K : Act → World → Prop, Shut (∀ b v, (i ≠ st → S v) → anyL P md ops Q S st n (l.setIfInBounds i true) b v → K b v) → if Region.wanted o (yielded ops a.tmps) = true then Oper.wp P o a w K Q else K (a.put o.dst undef) w)
    (hs : AllL P md ops Q S st n l a w rs) : AllL P md ops Q S st n l a w (i :: rs) := fun j hj => by
  rcases List.mem_cons.1 hj with rfl | hj
  · exact wpOp_step ho (fun K hK => h K (fun b v hS hW => hK b v ⟨hS, hW⟩))
  · exact hs j hj
theorem anyL_all {rs : List Nat} {n : Nat} {l : Array Bool} {a : Act} {w : World} (hr : Region.ready md ops l = rs) (hne : rs ≠ []) (h : AllL P md ops Q S st n l a w rs) : anyL P md ops Q S st (n + 1) l a w :=
  ⟨fun h0 => absurd (hr ▸ h0) hne, hr ▸ h⟩
end

end Go.Proofs.Ytkklghdmnkdofaa
