/- HeadParts: the plain laws. -/
import Derived.Test.YtnfgpcccmbblcaaDoorHdWa
import Derived.Test.YtnfgpcccmbblcaaDoorHdM
namespace Go.Proofs.YtnfgpcccmbblcaaDoor
open Go.RowKit

def upB (c : UInt8) : UInt8 := if 97 ≤ c.toNat ∧ c.toNat ≤ 122 then UInt8.ofNat (c.toNat - 32) else c
def upL (l : List UInt8) : List UInt8 := l.map upB
theorem up_lo' : ∀ n : Fin 256, loB (upB (UInt8.ofNat n.val)) = loB (UInt8.ofNat n.val) := by decide +kernel
theorem up_lo (c : UInt8) : loB (upB c) = loB c := by
  have := up_lo' ⟨c.toNat, c.toNat_lt⟩
  simp only [u8_ofNat] at this
  exact this
theorem up_low (l : List UInt8) : lowL (upL l) = lowL l := by
  unfold lowL upL
  rw [List.map_map]
  exact List.map_congr_left fun c _ => up_lo c
theorem upL_len (l : List UInt8) : (upL l).length = l.length := by simp [upL]
theorem up_wrap' : ∀ n : Fin 256, 97 ≤ n.val → n.val ≤ 122 → IntKind.u8.wrap ((n.val : Int) - 32) = ((upB (UInt8.ofNat n.val)).toNat : Int) := by decide +kernel
theorem up_wrap {c : UInt8} (h : 97 ≤ c.toNat) (h' : c.toNat ≤ 122) : IntKind.u8.wrap ((c.toNat : Int) - 32) = ((upB c).toNat : Int) := by
  have := up_wrap' ⟨c.toNat, c.toNat_lt⟩ h h'
  simpa using this
theorem up_no {c : UInt8} (h : ¬ (97 ≤ c.toNat ∧ c.toNat ≤ 122)) : upB c = c := by unfold upB; rw [if_neg h]
theorem fnd_up (ps : List Pr) (n : List UInt8) : fndV ps (upL n) = fndV ps n := by
  induction ps with
  | nil => rfl
  | cons p ps ih => simp only [fndV, up_low, ih]
theorem fnd_pos {ps : List Pr} {p : Pr} (h : p ∈ ps) : 1 ≤ (fndV ps p.1).length := by
  induction ps with
  | nil => cases h
  | cons q ps ih =>
    unfold fndV
    rcases List.mem_cons.1 h with rfl | h
    · rw [if_pos (by simp)]
      simp
    · have := ih h
      split
      · simp
      · exact this
theorem two_parts {a b : List UInt8} (ha : hdE a = 0) (hb : hdE b = 0) (hl : (a ++ b).length ≤ 16384) :
    if 32 < (hdV a ++ hdV b).length then hdE (a ++ b) = 4 else hdE (a ++ b) = 0 ∧ hdV (a ++ b) = hdV a ++ hdV b := by
  obtain ⟨_, ps, h2, _, h4⟩ := hdE_ok ha
  obtain ⟨_, qs, k2, _, k4⟩ := hdE_ok hb
  have h := hdA_app b h2
  rw [k2] at h
  rw [h4, k4]
  split
  · rename_i h1
    exact (hdE_many h h1).1
  · rename_i h1
    exact hdE_of hl h (by omega)
/-- A text's bytes in memory. -/
def BytesUp (G : Nat) (l : List UInt8) (W : World) : Prop := ∀ j (h : j < l.length), W.cell? ((⟨G, 0, none⟩ : Addr).add j) = some (.int .u8 ((l[j]'h).toNat : Int))
theorem BytesUp.ret {G : Nat} {l : List UInt8} {w w' : World} (h : BytesUp G l w) (hg : G < w.heap.size) (hb : Below w.heap.size w w') : BytesUp G l w' := by
  intro j hj
  have h1 := h j hj
  rw [add_zero_plain] at h1 ⊢
  exact ((bcell hb).1 _ _ hg).trans h1
structure Up (w6 : World) (G b o : Nat) (l : List UInt8) (X : ByteArray) (W : World) : Prop where
  lt : G < W.heap.size
  lt1 : b < W.heap.size
  bytes : BytesUp G l W
  cell : W.cell? ⟨b, o, none⟩ = some (.string X)
  bel : Below w6.heap.size w6 W
theorem Up.ret {w6 : World} {G b o : Nat} {l : List UInt8} {X : ByteArray} {w w' : World} (h : Up w6 G b o l X w) (hb : Below w.heap.size w w') : Up w6 G b o l X w' :=
  ⟨Nat.lt_of_lt_of_le h.lt hb.size, Nat.lt_of_lt_of_le h.lt1 hb.size, h.bytes.ret h.lt hb, ((bcell hb).1 _ _ h.lt1).trans h.cell, h.bel.trans (hb.mono h.bel.size)⟩
end Go.Proofs.YtnfgpcccmbblcaaDoor
