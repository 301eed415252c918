/- JdX, JdY, JdV, JdZ: put together by mergetpl.py. -/
import Derived.Test.YtjgeiieiinmdnaaGreatDoorKf
import Derived.Test.YtjgeiieiinmdnaaGreatDoorKc
import Derived.Test.YtjgeiieiinmdnaaGreatDoorKe
import Derived.Test.YtjgeiieiinmdnaaGreatDoorKa
import Derived.Test.YtjgeiieiinmdnaaGreatDoorGb
namespace Go.Proofs.YtjgeiieiinmdnaaGreatDoor
open Go.RowKit Go.Lib

/-- the place of a byte; below 0: it is not there. -/
def atP (c : UInt8) (l : List UInt8) : Int := if l.contains c then ((cA c l).length : Int) else -1
end Go.Proofs.YtjgeiieiinmdnaaGreatDoor
namespace Go.Proofs.YtjgeiieiinmdnaaGreatDoor
open Go.RowKit Go.Lib

end Go.Proofs.YtjgeiieiinmdnaaGreatDoor
namespace Go.Proofs.YtjgeiieiinmdnaaGreatDoor
/-- the text that the document's Parse wants the address to have. -/
def wantP (s : List UInt8) : List UInt8 := lowA s ++ (if s.contains 47 then 47 :: jRes s else [])
end Go.Proofs.YtjgeiieiinmdnaaGreatDoor
namespace Go.Proofs.YtjgeiieiinmdnaaGreatDoor
open Go.RowKit Go.Lib

theorem JAt.set0 {L : Nat} {a b c : ByteArray} {w : World} (h : JAt L a b c w) (x : ByteArray) : JAt L x b c (w.setCell ⟨L, 0, none⟩ (.string x)) := by
 obtain ⟨h0, h1, h2, h3, h4, h5, h6⟩ := h
 constructor <;> simp [go_sem, *]
theorem JAt.set1 {L : Nat} {a b c : ByteArray} {w : World} (h : JAt L a b c w) (x : ByteArray) : JAt L a x c (w.setCell ⟨L, 1, none⟩ (.string x)) := by
 obtain ⟨h0, h1, h2, h3, h4, h5, h6⟩ := h
 constructor <;> simp [go_sem, *]
theorem JAt.other {L M o : Nat} {a b c : ByteArray} {w : World} (h : JAt L a b c w) (hne : L ≠ M) (x : Value) : JAt L a b c (w.setCell ⟨M, o, none⟩ x) := by
 obtain ⟨h0, h1, h2, h3, h4, h5, h6⟩ := h
 constructor <;> simp [go_sem, *]
theorem JAt.two (w : World) (a b c x y z : ByteArray) : JAt w.heap.size a b c ((w.alloc (.cells #[.string a, .string b, .string c] 117)).alloc (.cells #[.string x, .string y, .string z] 117)) ∧ JAt (w.heap.size + 1) x y z ((w.alloc (.cells #[.string a, .string b, .string c] 117)).alloc (.cells #[.string x, .string y, .string z] 117)) := by
 have k1 := JAt.new w a b c
 have k2 := JAt.new (w.alloc (.cells #[.string a, .string b, .string c] 117)) x y z
 rw [World.size_alloc] at k2
 exact ⟨k1.ret ((Below.refl _ _).alloc (Nat.le_refl _) _), k2⟩
end Go.Proofs.YtjgeiieiinmdnaaGreatDoor
