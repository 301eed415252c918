/- law 24's HallBinds. PRINTED BY PROGRAM (gen_hbb.py). -/
import Derived.Test.YtjgeiieiinmdnaaGreatDoorLp
import Derived.Test.YtjgeiieiinmdnaaGreatDoorGrE
import Derived.Test.YtjgeiieiinmdnaaGreatDoorLl
import Derived.Test.YtjgeiieiinmdnaaGreatDoorLh
import Derived.Test.YtjgeiieiinmdnaaGreatDoorLi
namespace Go.Proofs.YtjgeiieiinmdnaaGreatDoor
open Go.RowKit Go.Lib

/-- what Who answers, where it is known. -/
def WhoIs (w : World) (b : Bool) (x : Re) (e : Ending) (w' : World) : Prop := ∃ r : RsI, e = .returned (.tuple #[r.v, .bool b]) ∧ r.d = x ∧ rsY.own (fun g => w.heap.size ≤ g) r w' ∧ Below w.heap.size w w'
theorem who_some {P : Program} {f : FuncId} {args : Array Value} {w : World} {R : List Re} {t : List UInt8} {x : Re} (h : Calls P f args w (FndR w R t)) (hf : fiG reN R t = some x) : Calls P f args w (WhoIs w true x) :=
 h.mono fun e w' ⟨r, h1, h2, h3, h4⟩ => ⟨r, by rw [h1, hf]; rfl, by rw [h2, hf]; rfl, h3, h4⟩
theorem who_none {P : Program} {f : FuncId} {args : Array Value} {w : World} {R : List Re} {t : List UInt8} (h : Calls P f args w (FndR w R t)) (hf : fiG reN R t = none) : Calls P f args w (WhoIs w false re0) :=
 h.mono fun e w' ⟨r, h1, h2, h3, h4⟩ => ⟨r, by rw [h1, hf]; rfl, by rw [h2, hf]; rfl, h3, h4⟩
theorem own_sub {w0 w : World} {ad : List Nat} {x : RsI} (h1 : OwZ trY w0 ad x.lv x.ld w) (h2 : OwX w0 ad 9 1 x.sv x.st.length (strV x.st) w) : rsY.sub x w := ⟨h1.own.isL, IsGrp.own h2.1⟩
theorem bytes_app (O : ByteArray) (s : List UInt8) : (⟨(O.data.toList ++ 47 :: s).toArray⟩ : ByteArray).extract 0 (O.size + 1) = O ++ ⟨#[47]⟩ := by
 apply str_ext
 rw [ext_data]
 have h := size_toList O
 show ((O.data.toList ++ 47 :: s).drop 0).take (O.size + 1 - 0) = (O ++ (⟨#[47]⟩ : ByteArray)).data.toList
 rw [List.drop_zero, Nat.sub_zero, ← h, List.take_append, List.take_of_length_le (Nat.le_succ _), Nat.add_sub_cancel_left]
 simp
end Go.Proofs.YtjgeiieiinmdnaaGreatDoor
