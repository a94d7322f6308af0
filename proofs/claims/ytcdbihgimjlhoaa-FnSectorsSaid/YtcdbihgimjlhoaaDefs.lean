/- The sectors' chapter in plain Lean: places, sectors. No program in sight. -/
import Derived.Test.YtcdbihgimjlhoaaPure
namespace Go.Proofs.Ytcdbihgimjlhoaa
structure Pl where
  x : Int
  y : Int
  deriving Inhabited
@[simp] theorem Pl_dx : (default : Pl).x = 0 := rfl
@[simp] theorem Pl_dy : (default : Pl).y = 0 := rfl
def Pl.cs (v : Pl) : List Value := [.int .i64 v.x, .int .i64 v.y]
def eqPl (a b : Pl) : Bool := (a.x == b.x) && (a.y == b.y)
theorem nth_take {α : Type} [Inhabited α] (xs : List α) {k i : Nat} (h : i < k) : nth (xs.take k) i = nth xs i := by simp [nth, h]
end Go.Proofs.Ytcdbihgimjlhoaa
