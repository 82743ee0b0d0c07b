/-
  No edges are sorted in this seat.
-/
namespace Go.Proofs.YtoilcdgpeilgaaaGreat
end Go.Proofs.YtoilcdgpeilgaaaGreat
