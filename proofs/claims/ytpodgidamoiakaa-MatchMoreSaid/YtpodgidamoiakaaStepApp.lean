/-
  Append as one step of a region that draws its order; 'append(append([]T{}, l...), x)'.
-/
import Derived.Test.YtpodgidamoiakaaBase
import Derived.Deep.RegionLaw
namespace Go.Proofs.Ytpodgidamoiakaa
open Go.RowKit

section
variable {P : Program} {α : Type} {c : Cod α} {size bytes : Nat} {t e : TypeId} {w : World} {base : Nat} {v : Value} {l : List α} {xs : List Value}

theorem step_app {ops : Array Oper} {o : Oper} {a : Act} {K : Act → World → Prop} {Q : Exit → Act → World → Prop} {E : Prop} (hgd : o.guard = none) (s x : Operand)
    (ho : o.op = .call { callee := .builtin .append, args := #[s, x], argTypes := #[t, t] })
    (he : ElemOf P t e size bytes) (hg : Good c) {A : Option Addr} {m cap : Nat} {S : Nat → Prop} {l2 : List α} (hs : a.eval s = v) (hx : a.eval x = .slice A m cap) (hown : Own c size e w base v l xs) (hsl : Sl c size w S A m cap l2)
    (hS : ∀ x cs, c w S x cs → c w (Beside base v) x cs) (hbytes : (l.length + m) * bytes ≤ 140737488355328) (hb1 : 1 ≤ bytes) (hbase : base ≤ w.heap.size)
    (h : ∀ v' w' xs', Own c size e w' base v' (l ++ l2) xs' → w.grownBy w' v.ownBlock → (v'.ownBlock = v.ownBlock ∨ v'.ownBlock = some w.heap.size) → K (a.put o.dst v') w') :
    if Region.wanted o (yielded ops a.tmps) = true then Oper.wp P o a w K Q else E := by
  have hw : Region.wanted o (yielded ops a.tmps) = true := by simp [Region.wanted, hgd]
  rw [if_pos hw]
  exact wp_app s x ho he hg hs hown hx hsl hS hbytes hb1 hbase h

/-- An empty literal's block. -/
theorem Own.empty (c : Cod α) (size : Nat) {g : Nat} (hb : base ≤ g) (hg : w.heap[g]? = some (.cells #[] e (0, 0))) : Own c size e w base (.slice (some ⟨g, 0, none⟩) 0 0) [] [] :=
  ⟨⟨by simp, .inr ⟨g, 0, #[], rfl, hb, hg, Nat.le_refl _, by simp [maxLen], by simp, by simp⟩⟩, fun i x h => by simp at h⟩
end
end Go.Proofs.Ytpodgidamoiakaa
