/- Letters, tokens and lists, in plain Lean. No program in sight. -/
import Derived.Test.YtnfgpcccmbblcaaDoorStr2
namespace Go.Proofs.YtnfgpcccmbblcaaDoor
open Go.RowKit

theorem u8_beq (c d : UInt8) : ((c.toNat : Int) == (d.toNat : Int)) = (c == d) := by
  rw [Bool.eq_iff_iff, beq_iff_eq, beq_iff_eq]
  constructor
  · intro h
    exact UInt8.toNat_inj.1 (by omega)
  · intro h
    rw [h]
theorem beq_comm_u8 (c d : UInt8) : (c == d) = (d == c) := by
  rw [Bool.eq_iff_iff, beq_iff_eq, beq_iff_eq]
  exact eq_comm
theorem eqb_bytes (x y : List UInt8) : ((⟨x.toArray⟩ : ByteArray).toList == (⟨y.toArray⟩ : ByteArray).toList) = decide (x = y) := by
  rw [Lib.toList_data, Lib.toList_data, eqb_list]
/-- A small letter. -/
def loB (c : UInt8) : UInt8 := if 65 ≤ c.toNat ∧ c.toNat ≤ 90 then UInt8.ofNat (c.toNat + 32) else c
def lowL (l : List UInt8) : List UInt8 := l.map loB
def blk (c : UInt8) : Bool := c == 32 || c == 9
def trm (l : List UInt8) : List UInt8 := ((l.dropWhile blk).reverse.dropWhile blk).reverse
def tokP : List UInt8 := [33, 35, 36, 37, 38, 39, 42, 43, 45, 46, 94, 95, 96, 124, 126]
def ltr (c : UInt8) : Bool := (decide (97 ≤ c.toNat) && decide (c.toNat ≤ 122)) || (decide (65 ≤ c.toNat) && decide (c.toNat ≤ 90)) || (decide (48 ≤ c.toNat) && decide (c.toNat ≤ 57))
def tokC (c : UInt8) : Bool := ltr c || tokP.contains c
def tok (l : List UInt8) : Bool := !l.isEmpty && l.all tokC
def plnC (c : UInt8) : Bool := !((!(c == 9) && decide (c.toNat < 32)) || c == 127)
def pln (l : List UInt8) : Bool := l.all plnC
/-- What stands between a byte; cur: what stands ahead. -/
def cutG (b : UInt8) (cur : List UInt8) : List UInt8 → List (List UInt8)
  | [] => [cur]
  | c :: l => if c = b then cur :: cutG b [] l else cutG b (cur ++ [c]) l
/-- A list's parts. -/
def lstP (l : List UInt8) : List (List UInt8) := (((cutG 44 [] l).map trm).filter fun x => !x.isEmpty).map lowL
def lstE (l : List UInt8) : Int := if 16 < (lstP l).length then 4 else if (lstP l).all tok then 0 else 8
def lstV (l : List UInt8) : List (List UInt8) := if lstE l = 0 then lstP l else []
theorem loB_hi {c : UInt8} (h : 65 ≤ c.toNat) (h' : c.toNat ≤ 90) : (loB c).toNat = c.toNat + 32 := by
  unfold loB
  rw [if_pos ⟨h, h'⟩, UInt8.toNat_ofNat']
  exact Nat.mod_eq_of_lt (by omega)
theorem loB_lo {c : UInt8} (h : ¬ (65 ≤ c.toNat ∧ c.toNat ≤ 90)) : loB c = c := by
  unfold loB
  rw [if_neg h]
theorem take_snoc (s : ByteArray) (k : Nat) (h : k < s.size) : s.data.toList.take (k + 1) = s.data.toList.take k ++ [s[k]] := by
  rw [List.take_succ_eq_append_getElem (by simpa using h)]
  rfl
theorem drop_cons (s : ByteArray) (k : Nat) (h : k < s.size) : s.data.toList.drop k = s[k] :: s.data.toList.drop (k + 1) := by
  rw [List.drop_eq_getElem_cons (by simpa using h)]
  rfl
theorem lowL_snoc (l : List UInt8) (c : UInt8) : lowL (l ++ [c]) = lowL l ++ [loB c] := by simp [lowL]
theorem lowL_len (l : List UInt8) : (lowL l).length = l.length := by simp [lowL]
theorem cutG_len (b : UInt8) (l : List UInt8) : ∀ cur, (cutG b cur l).length ≤ l.length + 1 := by
  induction l with
  | nil => intro cur; simp [cutG]
  | cons c l ih =>
    intro cur
    simp only [cutG]
    split
    · have := ih []
      simp only [List.length_cons]
      omega
    · have := ih (cur ++ [c])
      simp only [List.length_cons]
      omega
/-- The texts that Trim goes through: blanks ahead taken off. -/
theorem trm_cons {c : UInt8} {l : List UInt8} (h : blk c = true) : trm (c :: l) = trm l := by
  unfold trm
  rw [List.dropWhile_cons_of_pos h]
/-- .. and behind. -/
def trmR (l : List UInt8) : List UInt8 := (l.reverse.dropWhile blk).reverse
theorem trm_eq {c : UInt8} {l : List UInt8} (h : blk c = false) : trm (c :: l) = trmR (c :: l) := by
  unfold trm trmR
  rw [List.dropWhile_cons_of_neg (by simp [h])]
theorem trmR_snoc {c : UInt8} {l : List UInt8} (h : blk c = true) : trmR (l ++ [c]) = trmR l := by
  unfold trmR
  rw [List.reverse_append, List.reverse_singleton, List.singleton_append, List.dropWhile_cons_of_pos h]
theorem trmR_stop {c : UInt8} {l : List UInt8} (h : blk c = false) : trmR (l ++ [c]) = l ++ [c] := by
  unfold trmR
  rw [List.reverse_append, List.reverse_singleton, List.singleton_append, List.dropWhile_cons_of_neg (by simp [h])]
  simp
theorem trm_nil : trm [] = [] := rfl
theorem trmR_nil : trmR [] = [] := rfl
theorem trm_le (l : List UInt8) : (trm l).length ≤ l.length := by
  unfold trm
  rw [List.length_reverse]
  refine Nat.le_trans ((List.dropWhile_sublist _).length_le) ?_
  rw [List.length_reverse]
  exact (List.dropWhile_sublist _).length_le
end Go.Proofs.YtnfgpcccmbblcaaDoor
