/- chunk.Encode: what is encoded, or not. -/
import Derived.Test.YthgmgmbjjjnhnaaGreatDoorEnc
namespace Go.Proofs.YthgmgmbjjjnhnaaGreatDoor
open Go.RowKit

theorem encR_size (l : List Int) : ∀ (body t : List UInt8), encR body l = some t → t.length ≤ 8 * l.length + body.length + 5 := by
  induction l with
  | nil =>
    intro body t h
    simp only [encR] at h
    split at h
    · injection h with h
      subst h
      simp
    · cases h
  | cons n l ih =>
    intro body t h
    simp only [encR] at h
    split at h
    · cases h
    · rename_i hn
      obtain ⟨r, hr, rfl⟩ := Option.map_eq_some_iff.1 h
      have := ih _ _ hr
      have h4 := hexOf_len 4 n.toNat
      simp only [List.length_drop, List.length_cons, List.length_append, List.length_take, List.length_nil] at this ⊢
      omega
theorem encode_some (s : ByteArray) (v : Value) (xs : List Int) (T : ByteArray) (h : encOf s.data.toList xs = some T.data.toList) (hx : ∀ x ∈ xs, -9223372036854775808 ≤ x ∧ x ≤ 9223372036854775807) (hn : xs.length ≤ 1000000) (w : World) (ht : TabZ w) (hi : IsInts v xs w) :
    Calls Tryz.prog 24 #[.string s, v] w (Ret w (.tuple #[.string T, .int .i64 0])) := by
  have c := ch_Encode s v xs hx hn w ht hi
  rw [(ec_some h).1, (ec_some h).2, str_mk] at c
  exact c
theorem encode_none (s : ByteArray) (v : Value) (xs : List Int) (h : encOf s.data.toList xs = none) (hx : ∀ x ∈ xs, -9223372036854775808 ≤ x ∧ x ≤ 9223372036854775807) (hn : xs.length ≤ 1000000) (w : World) (ht : TabZ w) (hi : IsInts v xs w) :
    Calls Tryz.prog 24 #[.string s, v] w (Ret w (.tuple #[.string ⟨#[]⟩, .int .i64 2])) := by
  have c := ch_Encode s v xs hx hn w ht hi
  rw [(ec_none h).1, (ec_none h).2] at c
  exact c
end Go.Proofs.YthgmgmbjjjnhnaaGreatDoor
