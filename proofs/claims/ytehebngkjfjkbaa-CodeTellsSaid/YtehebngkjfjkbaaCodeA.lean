/-
  Requests: data; what a kind names; code.parts.
-/
import Derived.Test.YtehebngkjfjkbaaGen
import Derived.BigRegion
namespace Go.Proofs.Ytehebngkjfjkbaa
open Go.RowKit Go.Shelf

structure Ask where
  number : Int
  kind : Int
  id : Int
  guests : Int
  level : Bool
  cabin : Int
  category : Int
  frm : Int
  upto : Int
  til : Int
  amount : Int
  deriving DecidableEq, Inhabited
def askA (x : Ask) : Array Value := #[.int .i64 x.number, .int .i64 x.kind, .int .i64 x.id, .int .i64 x.guests, .bool x.level, .int .i64 x.cabin, .int .i64 x.category, .int .i64 x.frm, .int .i64 x.upto, .int .i64 x.til, .int .i64 x.amount]
def AskIn (x : Ask) : Prop := InI x.number ∧ InI x.kind ∧ InI x.id ∧ InI x.guests ∧ InI x.cabin ∧ InI x.category ∧ InI x.frm ∧ InI x.upto ∧ InI x.til ∧ InI x.amount
def askC : Cod Ask := fun _ _ x cs => cs = (askA x).toList ∧ AskIn x

/-- A part of a request: how many bytes; the greatest number; which cell. -/
structure Part where
  bytes : Int
  most : Int
  ix : Nat
  deriving DecidableEq, Inhabited
def partAt (ba bl : Nat) (i : Nat) : Addr := if i = 4 then ⟨bl, 0, none⟩ else ⟨ba, i, none⟩
def partC (ba bl : Nat) : Cod Part := fun _ _ x cs => cs = [.int .i64 x.bytes, .int .i64 x.most, .pointer (some (partAt ba bl x.ix))] ∧ True
theorem partC_flat (ba bl : Nat) : Flat (partC ba bl) := fun _ _ _ _ _ _ h => h
theorem partC_good (ba bl : Nat) : Good (partC ba bl) := .of_flat (partC_flat ba bl) fun h u hu => by obtain ⟨rfl, _⟩ := h; simp at hu; rcases hu with rfl | rfl | rfl <;> rfl
instance partK (ba bl : Nat) : CodK (partC ba bl) 3 := ⟨partC_good ba bl, by omega⟩

def pId : Part := ⟨3, 999999, 2⟩
def pGuests : Part := ⟨1, 255, 3⟩
def pLevel : Part := ⟨1, 1, 4⟩
def pCabin : Part := ⟨1, 255, 5⟩
def pCategory : Part := ⟨1, 255, 6⟩
def pFrom : Part := ⟨1, 255, 7⟩
def pTo : Part := ⟨1, 255, 8⟩
def pTil : Part := ⟨2, 65535, 9⟩
def pAmount : Part := ⟨4, 100000000, 10⟩
/-- The parts that a kind names. -/
def partsL (k : Int) : List Part :=
  if k = 1 then [pId, pGuests, pCabin, pFrom, pTo, pLevel, pTil] else if k = 2 then [pId, pGuests, pCategory, pLevel, pTil] else if k = 3 ∨ k = 5 then [pId] else
  if k = 4 then [pId, pAmount] else if k = 6 then [pId, pCabin] else if k = 7 then [pTil] else []

theorem Sl.parts {w : World} {S : Nat → Prop} {ba bl b : Nat} {t : TypeId} (l : List Part) (cs : Array Value) (h : Blk w b cs t) (hl : l.length ≤ 10) (hS : S b) (he : cs.toList = l.flatMap fun x => [.int .i64 x.bytes, .int .i64 x.most, .pointer (some (partAt ba bl x.ix))]) :
    Sl (partC ba bl) 3 w S (some ⟨b, 0, none⟩) l.length l.length l :=
  Sl.ofBlk h l (by omega) hS fun i x hx => ⟨_, ⟨rfl, trivial⟩, rfl, fun j u hu => by
    have key : ∀ (l : List Part) (i : Nat) (x : Part), l[i]? = some x → ∀ j u, [Value.int .i64 x.bytes, .int .i64 x.most, .pointer (some (partAt ba bl x.ix))][j]? = some u →
        (l.flatMap fun x => [Value.int .i64 x.bytes, .int .i64 x.most, .pointer (some (partAt ba bl x.ix))])[i * 3 + j]? = some u := by
      intro l
      induction l with
      | nil => intro i x hx; simp at hx
      | cons y l ih =>
        intro i x hx j u hu
        rw [List.flatMap_cons]
        rcases i with _ | i
        · simp at hx; subst hx
          have hj : j < 3 := by have := (List.getElem?_eq_some_iff.1 hu).1; simpa using this
          rw [List.getElem?_append_left (by simp; omega)]
          simpa using hu
        · rw [List.getElem?_append_right (by simp; omega)]
          simp only [List.length_cons, List.length_nil]
          rw [show (i + 1) * 3 + j - (0 + 1 + 1 + 1) = i * 3 + j by omega]
          exact ih i x (by simpa using hx) j u hu
    have := key l i x hx j u hu
    rw [← he] at this
    simpa using this⟩
end Go.Proofs.Ytehebngkjfjkbaa
