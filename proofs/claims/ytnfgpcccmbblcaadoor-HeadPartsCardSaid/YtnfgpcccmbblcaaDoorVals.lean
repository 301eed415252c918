/- Slices that read as lists of values of one cell. -/
import Derived.Test.YtnfgpcccmbblcaaDoorStr2
import Derived.Test.YtnfgpcccmbblcaaDoorKit
import Derived.Test.YtnfgpcccmbblcaaDoorRows
import Derived.Laws.AppendOwn
import Derived.Laws.IdiomStrings
import Derived.Lib.BufferRead
namespace Go.Proofs.YtnfgpcccmbblcaaDoor
open Go.RowKit

def VAt (b off : Nat) (vs : List Value) (w : World) : Prop := b < w.heap.size ∧ ∀ j (h : j < vs.length), w.cell? ⟨b, off + j, none⟩ = some vs[j]
theorem VAt.ret {b off : Nat} {vs : List Value} {w w' : World} (h : VAt b off vs w) (hb : Below w.heap.size w w') : VAt b off vs w' :=
  ⟨Nat.lt_of_lt_of_le h.1 hb.size, fun j hj => ((bcell hb).1 _ _ h.1).trans (h.2 j hj)⟩
def IsVals (v : Value) (vs : List Value) (w : World) : Prop := ∃ a cap, v = .slice a vs.length cap ∧ (a = none → cap = 0) ∧ (vs = [] ∨ ∃ b off, a = some ⟨b, off, none⟩ ∧ VAt b off vs w)
theorem IsVals.ret {v : Value} {vs : List Value} {w w' : World} (h : IsVals v vs w) (hb : Below w.heap.size w w') : IsVals v vs w' := by
  obtain ⟨a, cap, h1, h0, h2⟩ := h
  refine ⟨a, cap, h1, h0, ?_⟩
  rcases h2 with h2 | ⟨b, off, h2, h3⟩
  · exact .inl h2
  · exact .inr ⟨b, off, h2, h3.ret hb⟩
theorem IsVals.nil (w : World) : IsVals (.slice none 0 0) [] w := ⟨none, 0, rfl, fun _ => rfl, .inl rfl⟩
theorem add_zero_plain (g j : Nat) : (⟨g, 0, none⟩ : Addr).add j = ⟨g, j, none⟩ := by
  simp only [Addr.add]
  split
  · rename_i e
    rw [e]
  · rw [Nat.zero_add]
theorem add_plain' (b off j : Nat) : (⟨b, off, none⟩ : Addr).add j = ⟨b, off + j, none⟩ := by
  simp only [Addr.add]
  split
  · rename_i e
    rw [e]
    rfl
  · rfl
theorem VAt.cells {b off : Nat} {vs : List Value} {w : World} (h : VAt b off vs w) : ∀ j u, vs[j]? = some u → w.cell? ((⟨b, off, none⟩ : Addr).add j) = some u := by
  intro j u hj
  obtain ⟨hlt, rfl⟩ := List.getElem?_eq_some_iff.1 hj
  rw [add_plain', h.2 j hlt]
/-- What the call owns. -/
theorem own_vals {w : World} {B n : Nat} {e : TypeId} {v : Value} {vs : List Value} (h : w.ownsRow B e 1 v n vs) : IsVals v vs w := by
  have hn : n = vs.length := by have := h.1; omega
  subst hn
  rcases h.2 with ⟨rfl, h0⟩ | ⟨g, cap, cur, rfl, hg1, hg2, hg3⟩
  · exact ⟨none, 0, by rw [h0], fun _ => rfl, .inl (List.eq_nil_of_length_eq_zero h0)⟩
  · refine ⟨some ⟨g, 0, none⟩, cap, rfl, (fun h => by cases h), .inr ⟨g, 0, rfl, ?_, fun j hj => ?_⟩⟩
    · rcases Nat.lt_or_ge g w.heap.size with h' | h'
      · exact h'
      · simp [Array.getElem?_eq_none h'] at hg2
    · have := h.cells (g := g) rfl j vs[j] (List.getElem?_eq_getElem hj)
      rw [add_zero_plain] at this
      rw [Nat.zero_add, this]
/-- A row of the call's own, behind a call that only makes memory. -/
theorem own_below {B n size : Nat} {e : TypeId} {v : Value} {xs : List Value} {w w' : World} (h : w.ownsRow B e size v n xs) (hb : Below w.heap.size w w') : w'.ownsRow B e size v n xs := by
  refine h.kept (row := none) ⟨hb.os, hb.tape, hb.output, hb.size, fun k hk _ => hb.block k hk⟩ ?_
  cases h : v.ownBlock with
  | none => exact .inl rfl
  | some x => exact .inr (by simp)
/-- 'string(b)' of bytes that the call owns. -/
theorem conv_own {w : World} {B n : Nat} {v : Value} {l : List UInt8} (h : w.ownsRow B 5 1 v n (l.map fun c => Value.int .u8 c.toNat)) :
    (convert 50 9 v).run Tryd.prog w = .ok (.string ⟨l.toArray⟩) w := by
  have hn : n = l.length := by have := h.1; simp at this; omega
  subst hn
  rcases h.2 with ⟨rfl, h0⟩ | ⟨g, cap, cur, rfl, hg1, hg2, hg3⟩
  · obtain rfl : l = [] := List.eq_nil_of_length_eq_zero h0
    exact Lib.run_convert_nil_bytes w 50 9 5 0 Tryd.underlying50 Tryd.underlying5 Tryd.underlying9
  · refine run_convert_bytes_back (P := Tryd.prog) w 50 9 5 ⟨g, 0, none⟩ cap l Tryd.underlying50 Tryd.underlying5 Tryd.underlying9 fun j hj => ?_
    exact h.cells (g := g) rfl j (.int .u8 l[j].toNat) (by rw [List.getElem?_map, List.getElem?_eq_getElem hj]; rfl)
/-- 'append(out, y)' of one value of one cell, onto a row of the call's own. -/
theorem wpList_app1 {P : Program} {w : World} {ops : Array Oper} {rest : List Oper} {o : Oper} {a : Act} {Q : Exit → Act → World → Prop} (hgd : o.guard = none) (s x : Operand) (t : TypeId)
    (ho : o.op = .call { callee := .builtin .append, args := #[s, x], argTypes := #[t, t] })
    (base : Nat) (e : TypeId) (i : TypeInfo) (z : Value) (bytes : Nat) (ht : P.underlying t = some (.slice e)) (hi : P.info? e = some i) (hz : i.zero = some z)
    (hsize : i.size = 1) (hby : i.bytes = bytes) (hzs : z.cells.size = 1)
    (v : Value) (n : Nat) (xs : List Value) (hs : a.eval s = v) (hown : w.ownsRow base e 1 v n xs) (y : Value) (hy : y.oneCell' = true)
    (hx : a.eval x = .slice (some ⟨w.heap.size, 0, none⟩) 1 1) (h63 : n + 1 ≤ 9223372036854775807) (hbytes : (n + 1) * bytes ≤ 140737488355328) (hbase : base ≤ w.heap.size)
    (h : ∀ v' w', w'.ownsRow base e 1 v' (n + 1) (xs ++ [y]) → (∀ w0, Below base w0 w → Below base w0 w') → wpList P ops Q rest (a.put o.dst v') w') : wpList P ops Q (o :: rest) a (w.alloc (.cells #[y] e)) := by
  refine wpList_append_own _ hgd s x t ho base e i z 1 bytes ht hi hz hsize hby hzs (by decide) v n xs hs (hown.alloc _) ⟨w.heap.size, 0, none⟩ 1 1 [y] hx rfl ?_ ?_ (by unfold maxLen; exact h63) hbytes (by simp; omega) ?_
  · intro j u hj
    match j, hj with
    | 0, hj => simp at hj; subst hj; simp [Addr.add]
  · intro u hu
    simp at hu
    subst hu
    exact hy
  · intro v' w' hown' hgrow _
    refine h v' w' hown' fun w0 hb => ?_
    have hs0 := hb.size
    exact (hb.alloc hbase _).grown hgrow (by simp; omega) (fun k hk => (hown.lt k hk).1)
theorem vinfo_byte : (Tryd.prog.info? 5).map (fun i => (i.zero, i.size, i.bytes)) = some (some (.int .u8 0), 1, 1) := by kernel_rfl
theorem vinfo_str : (Tryd.prog.info? 9).map (fun i => (i.zero, i.size, i.bytes)) = some (some (.string ⟨#[]⟩), 1, 16) := by kernel_rfl
/-- A text's size. -/
def strLen (v : Value) : Nat := match v with | .string s => s.size | _ => 0
/-- Texts as cells. -/
def strV (xs : List (List UInt8)) : List Value := xs.map fun l => Value.string ⟨l.toArray⟩
theorem strV_len (xs : List (List UInt8)) : (strV xs).length = xs.length := by simp [strV]
theorem strV_snoc (xs : List (List UInt8)) (l : List UInt8) : strV (xs ++ [l]) = strV xs ++ [.string ⟨l.toArray⟩] := by simp [strV]
end Go.Proofs.YtnfgpcccmbblcaaDoor
