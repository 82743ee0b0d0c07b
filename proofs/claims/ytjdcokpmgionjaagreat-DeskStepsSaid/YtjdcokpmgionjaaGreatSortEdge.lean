/-
  No edges are sorted in this seat.
-/
namespace Go.Proofs.YtjdcokpmgionjaaGreat
end Go.Proofs.YtjdcokpmgionjaaGreat
