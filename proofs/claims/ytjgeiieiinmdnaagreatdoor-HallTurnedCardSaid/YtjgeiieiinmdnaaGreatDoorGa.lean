/- Law, Kit, Str, Str2, AsF, Vals, Rws, NumF, NumG, NumL: put together by mergetpl.py. -/
import Derived.Below
import Derived.Carry
import Derived.ChangeSame
import Derived.ProofKit
import Derived.OpenShut
import Derived.Test.YtjgeiieiinmdnaaGreatDoorRows
import Derived.WalkKit
import Derived.WalkSpells
import Derived.Lib.Hide
import Derived.Handy
import Derived.Outline
import Derived.WalkLawsBesides
import Derived.Laws.EntriesVeiled
import Derived.Deep.RegionHeld3
import Derived.Deep.QuietTactic
import Derived.BigQuiet
import Derived.Deep.DeepCutAuto
import Derived.Deep.DrawnRows
import Derived.Deep.DeepFit
import Derived.Maps.Keyed
import Derived.Laws.IdiomRangeMap
import Derived.Laws.IdiomStrings
import Derived.Lib.Strings
import Derived.Laws.AppendOwn
import Derived.Lib.BufferRead
import Derived.Lib.ItoaNum
namespace Go.Proofs.YtjgeiieiinmdnaaGreatDoor
open Go.ChangeShapes Go.WideShapes Go.ChangeAt Go.RowKit
section
variable {H : Type} {enc : TypeId × Value → H} {P : Program}

theorem trodAll_below (hl : laidOutB P = true) {W W' : World} (hb : Below W.heap.size W W') {sp : Nat → Bool} :
  ∀ (ts : List TypeId) (vs : List Value) (ds : List (DataW H)) (ps : List MemPlace), ts.all (fun t => P.readableRec t && decide (t < P.types.size)) = true →
   DataW.TrodAll enc P W 0 (fun _ => true) true ts vs ds ps → (∀ x ∈ ps, x.block < W.heap.size) → (∀ x ∈ ps, sp x.block = true) → DataW.TrodAll enc P W' 0 sp true ts vs ds ps
 | [], [], [], _, _, h, _, _ => h
 | t :: ts, v :: vs, d :: ds, _, hr, ⟨p, q, h1, h2, rfl⟩, hlt, hsp => by
  simp only [List.all_cons, Bool.and_eq_true, decide_eq_true_eq] at hr
  refine ⟨p, q, ?_, trodAll_below hl hb ts vs ds q hr.2 h2 (fun x hx => hlt x (by simp [hx])) (fun x hx => hsp x (by simp [hx])), rfl⟩
  exact WideElems.Trod_stays hl hr.1.1 hr.1.2 h1 (fun x hx => hb.same (hlt x (by simp [hx]))) (fun x hx => hsp x (by simp [hx]))
 | [], [], _ :: _, _, _, h, _, _ => h.elim
 | [], _ :: _, _, _, _, h, _, _ => h.elim
 | _ :: _, [], _, _, _, h, _, _ => h.elim
 | _ :: _, _ :: _, [], _, _, h, _, _ => h.elim

/-- THE LAST STEP, ONCE FOR ALL LAWS. -/
theorem post_law (hl : laidOutB P = true) {f : Func} {s : ChangeSpec} {W W' : World} {args : Array Value} {ds gs : List (DataW H)} {before : List MemPlace}
  (hr : f.params.toList.all (fun t => P.readableRec t && decide (t < P.types.size)) = true) {T : TypeId} (hrt : f.resultTypes = #[T]) (hT : P.underlying T = some .bool)
  (hW : DataW.Whole enc P f.params.toList s.vars false W args.toList ds gs before) (hv : s.vars = [])
  (hspec : s.fn H ds = { results := [.lit (.bool true)], args := ds }) (hb : Below W.heap.size W W') :
  s.post enc P f false true false false W args (.bool true) W' := by
 have hlt : ∀ p ∈ before, p.block < W.heap.size := fun p hp => hW.lt p hp
 obtain ⟨p, q, hA, hV, rfl, hfz, hnd⟩ := id hW
 rw [hv] at hV
 obtain ⟨rfl, rfl⟩ := trodVars_none hV
 refine ⟨ds, [], _, [], p, [], hW, ?_, ?_, ?_, hb.frame _, fun h => by cases h⟩
 ·rw [List.append_nil, hspec, hrt]
  exact trodAll_cons_mk (shut_bool hT _) trodAll_mk0
 ·rw [List.append_nil, hspec]
  exact trodAll_below hl hb _ _ _ _ hr hA (fun x hx => hlt x (by simp [hx])) (fun x hx => by simpa using hlt x (by simp [hx]))
 ·rw [List.append_nil, hspec, hv]
  rfl
end
end Go.Proofs.YtjgeiieiinmdnaaGreatDoor
namespace Go.Proofs.YtjgeiieiinmdnaaGreatDoor
open Go.RowKit

/-- What a call that only makes memory comes to: the value, and nothing that was there has turned. -/
def Ret (w : World) (v : Value) (e : Ending) (w' : World) : Prop := e = .returned v ∧ Below w.heap.size w w'

theorem bcell {W w1 : World} (hb : Below W.heap.size W w1) : (∀ b o, b < W.heap.size → w1.cell? ⟨b, o, none⟩ = W.cell? ⟨b, o, none⟩) ∧ (∀ b o, b < W.heap.size → w1.frozen? ⟨b, o, none⟩ = W.frozen? ⟨b, o, none⟩) :=
 ⟨fun b o h => hb.cell (p := ⟨b, o, none⟩) h, fun b o h => hb.frozen (p := ⟨b, o, none⟩) h⟩

end Go.Proofs.YtjgeiieiinmdnaaGreatDoor
namespace Go.Proofs.YtjgeiieiinmdnaaGreatDoor
open Go.RowKit
/-- '[]byte(s)': a slice over a new block C, of which the first cells are the string's bytes, and may be written. -/
theorem str_bytes {P : Program} (w : World) (src dst e : TypeId) (s : ByteArray) (hs : P.underlying src = some .string) (hd : P.underlying dst = some (.slice e)) (he : P.underlying e = some (.int .u8)) :
  ∃ cap C, (∀ j (h : j < s.size), C[j]? = some (.int .u8 (s[j].toNat : Int))) ∧ s.size ≤ C.size ∧
   (convert src dst (.string s)).run P w = .ok (.slice (some ⟨w.heap.size, 0, none⟩) s.size cap) (w.alloc (.cells C e (C.size, C.size + 1))).drew :=
 ⟨grownCap w s.size 0 e, bytesRow s (grownCap w s.size 0 e), fun j h => bytesRow_at s _ j h, by simp [bytesRow], run_bytes_of_string w src dst e s hs hd he⟩
theorem size_toList (s : ByteArray) : s.data.toList.length = s.size := by simp
theorem isEmpty_of_pos {s : ByteArray} (h : 0 < s.size) : s.toList.isEmpty = false := by
 rw [Lib.toList_data]
 have := size_toList s
 cases hl : s.data.toList with
 | nil => rw [hl] at this; simp at this; omega
 | cons => rfl
theorem ne_nil_of_pos {s : ByteArray} (h : 0 < s.size) : ¬ s.toList = [] := by
 have := isEmpty_of_pos h
 intro e
 rw [e] at this
 simp at this
theorem getElem_data (s : ByteArray) (j : Nat) (h : j < s.size) : s.data.toList[j]? = some s[j] := by
 rw [List.getElem?_eq_getElem (by rw [size_toList]; exact h)]
 rfl
end Go.Proofs.YtjgeiieiinmdnaaGreatDoor
namespace Go.Proofs.YtjgeiieiinmdnaaGreatDoor
open Go.RowKit
theorem ret_b {a b : Bool} (h : a = b) : Ending.returned (.bool a) = .returned (.bool b) := by rw [h]
theorem str_ext {a b : ByteArray} (h : a.data.toList = b.data.toList) : a = b := by
 cases a; cases b
 simp only [ByteArray.mk.injEq]
 exact Array.toList_inj.1 h
theorem str_mk (s : ByteArray) : (⟨s.data.toList.toArray⟩ : ByteArray) = s := by cases s; simp
/-- A part of a text, by its bytes. -/
theorem ext_data (s : ByteArray) (i j : Nat) : (s.extract i j).data.toList = (s.data.toList.drop i).take (j - i) := by
 rw [ByteArray.data_extract, Array.toList_extract]
theorem eqb_list (a b : List UInt8) : (a == b) = decide (a = b) := by
 rw [Bool.eq_iff_iff, beq_iff_eq, decide_eq_true_eq]
theorem ext_tail (s : ByteArray) (m : Nat) : (s.extract m s.size).data.toList = s.data.toList.drop m := by
 rw [ext_data]
 exact List.take_of_length_le (by rw [List.length_drop, size_toList]; exact Nat.le_refl _)
theorem str_append2 (l1 l2 : List UInt8) : (⟨l1.toArray⟩ : ByteArray) ++ ⟨l2.toArray⟩ = ⟨(l1 ++ l2).toArray⟩ := by
 apply ByteArray.ext
 simp
end Go.Proofs.YtjgeiieiinmdnaaGreatDoor
namespace Go.Proofs.YtjgeiieiinmdnaaGreatDoor
open Go.RowKit

theorem beq_comm_u8 (c d : UInt8) : (c == d) = (d == c) := by
 rw [Bool.eq_iff_iff, beq_iff_eq, beq_iff_eq]
 exact eq_comm
theorem eqb_bytes (x y : List UInt8) : ((⟨x.toArray⟩ : ByteArray).toList == (⟨y.toArray⟩ : ByteArray).toList) = decide (x = y) := by
 rw [Lib.toList_data, Lib.toList_data, eqb_list]
/-- A small letter. -/
def loB (c : UInt8) : UInt8 := if 65 ≤ c.toNat ∧ c.toNat ≤ 90 then UInt8.ofNat (c.toNat + 32) else c
def lowL (l : List UInt8) : List UInt8 := l.map loB
/-- What stands between a byte; cur: what stands ahead. -/
def cutG (b : UInt8) (cur : List UInt8) : List UInt8 → List (List UInt8)
 | [] => [cur]
 | c :: l => if c = b then cur :: cutG b [] l else cutG b (cur ++ [c]) l
theorem loB_lo {c : UInt8} (h : ¬ (65 ≤ c.toNat ∧ c.toNat ≤ 90)) : loB c = c := by
 unfold loB
 rw [if_neg h]
theorem drop_cons (s : ByteArray) (k : Nat) (h : k < s.size) : s.data.toList.drop k = s[k] :: s.data.toList.drop (k + 1) := by
 rw [List.drop_eq_getElem_cons (by simpa using h)]
 rfl
theorem lowL_len (l : List UInt8) : (lowL l).length = l.length := by simp [lowL]
end Go.Proofs.YtjgeiieiinmdnaaGreatDoor
namespace Go.Proofs.YtjgeiieiinmdnaaGreatDoor
open Go.RowKit

def VAt (b off : Nat) (vs : List Value) (w : World) : Prop := b < w.heap.size ∧ ∀ j (h : j < vs.length), w.cell? ⟨b, off + j, none⟩ = some vs[j]
theorem VAt.ret {b off : Nat} {vs : List Value} {w w' : World} (h : VAt b off vs w) (hb : Below w.heap.size w w') : VAt b off vs w' :=
 ⟨Nat.lt_of_lt_of_le h.1 hb.size, fun j hj => ((bcell hb).1 _ _ h.1).trans (h.2 j hj)⟩
def IsVals (v : Value) (vs : List Value) (w : World) : Prop := ∃ a cap, v = .slice a vs.length cap ∧ (a = none → cap = 0) ∧ (vs = [] ∨ ∃ b off, a = some ⟨b, off, none⟩ ∧ VAt b off vs w)
theorem IsVals.ret {v : Value} {vs : List Value} {w w' : World} (h : IsVals v vs w) (hb : Below w.heap.size w w') : IsVals v vs w' := by
 obtain ⟨a, cap, h1, h0, h2⟩ := h
 refine ⟨a, cap, h1, h0, ?_⟩
 rcases h2 with h2 | ⟨b, off, h2, h3⟩
 ·exact .inl h2
 ·exact .inr ⟨b, off, h2, h3.ret hb⟩
theorem IsVals.nil (w : World) : IsVals (.slice none 0 0) [] w := ⟨none, 0, rfl, fun _ => rfl, .inl rfl⟩
theorem add_zero_plain (g j : Nat) : (⟨g, 0, none⟩ : Addr).add j = ⟨g, j, none⟩ := by
 simp only [Addr.add]
 split
 ·rename_i e
  rw [e]
 ·rw [Nat.zero_add]
theorem add_plain' (b off j : Nat) : (⟨b, off, none⟩ : Addr).add j = ⟨b, off + j, none⟩ := by
 simp only [Addr.add]
 split
 ·rename_i e
  rw [e]
  rfl
 ·rfl
theorem VAt.cells {b off : Nat} {vs : List Value} {w : World} (h : VAt b off vs w) : ∀ j u, vs[j]? = some u → w.cell? ((⟨b, off, none⟩ : Addr).add j) = some u := by
 intro j u hj
 obtain ⟨hlt, rfl⟩ := List.getElem?_eq_some_iff.1 hj
 rw [add_plain', h.2 j hlt]
/-- What the call owns. -/
theorem own_vals {w : World} {B n : Nat} {e : TypeId} {v : Value} {vs : List Value} (h : w.ownsRow B e 1 v n vs) : IsVals v vs w := by
 have hn : n = vs.length := by have := h.1; omega
 subst hn
 rcases h.2 with ⟨rfl, h0⟩ | ⟨g, cap, cur, rfl, hg1, hg2, hg3⟩
 ·exact ⟨none, 0, by rw [h0], fun _ => rfl, .inl (List.eq_nil_of_length_eq_zero h0)⟩
 ·refine ⟨some ⟨g, 0, none⟩, cap, rfl, (fun h => by cases h), .inr ⟨g, 0, rfl, ?_, fun j hj => ?_⟩⟩
  ·rcases Nat.lt_or_ge g w.heap.size with h' | h'
   ·exact h'
   ·simp [Array.getElem?_eq_none h'] at hg2
  ·have := h.cells (g := g) rfl j vs[j] (List.getElem?_eq_getElem hj)
   rw [add_zero_plain] at this
   rw [Nat.zero_add, this]
/-- A row of the call's own, behind a call that only makes memory. -/
theorem own_below {B n size : Nat} {e : TypeId} {v : Value} {xs : List Value} {w w' : World} (h : w.ownsRow B e size v n xs) (hb : Below w.heap.size w w') : w'.ownsRow B e size v n xs := by
 refine h.kept (row := none) ⟨hb.os, hb.tape, hb.output, hb.size, fun k hk _ => hb.block k hk⟩ ?_
 cases h : v.ownBlock with
 | none => exact .inl rfl
 | some x => exact .inr (by simp)
/-- 'append(out, y)' of one value of one cell, onto a row of the call's own. -/
theorem wpList_app1 {P : Program} {w : World} {ops : Array Oper} {rest : List Oper} {o : Oper} {a : Act} {Q : Exit → Act → World → Prop} (hgd : o.guard = none) (s x : Operand) (t : TypeId)
  (ho : o.op = .call { callee := .builtin .append, args := #[s, x], argTypes := #[t, t] })
  (base : Nat) (e : TypeId) (i : TypeInfo) (z : Value) (bytes : Nat) (ht : P.underlying t = some (.slice e)) (hi : P.info? e = some i) (hz : i.zero = some z)
  (hsize : i.size = 1) (hby : i.bytes = bytes) (hzs : z.cells.size = 1)
  (v : Value) (n : Nat) (xs : List Value) (hs : a.eval s = v) (hown : w.ownsRow base e 1 v n xs) (y : Value) (hy : y.oneCell' = true)
  (hx : a.eval x = .slice (some ⟨w.heap.size, 0, none⟩) 1 1) (h63 : n + 1 ≤ 9223372036854775807) (hbytes : (n + 1) * bytes ≤ 140737488355328) (hbase : base ≤ w.heap.size)
  (h : ∀ v' w', w'.ownsRow base e 1 v' (n + 1) (xs ++ [y]) → (∀ w0, Below base w0 w → Below base w0 w') → wpList P ops Q rest (a.put o.dst v') w') : wpList P ops Q (o :: rest) a (w.alloc (.cells #[y] e)) := by
 refine wpList_append_own _ hgd s x t ho base e i z 1 bytes ht hi hz hsize hby hzs (by decide) v n xs hs (hown.alloc _) ⟨w.heap.size, 0, none⟩ 1 1 [y] hx rfl ?_ ?_ (by unfold maxLen; exact h63) hbytes (by simp; omega) ?_
 ·intro j u hj
  match j, hj with
  | 0, hj => simp at hj; subst hj; simp [Addr.add]
 ·intro u hu
  simp at hu
  subst hu
  exact hy
 ·intro v' w' hown' hgrow _
  refine h v' w' hown' fun w0 hb => ?_
  have hs0 := hb.size
  exact (hb.alloc hbase _).grown hgrow (by simp; omega) (fun k hk => (hown.lt k hk).1)
theorem vinfo_str : (Tryz.prog.info? 9).map (fun i => (i.zero, i.size, i.bytes)) = some (some (.string ⟨#[]⟩), 1, 16) := by kernel_rfl
/-- Texts as cells. -/
def strV (xs : List (List UInt8)) : List Value := xs.map fun l => Value.string ⟨l.toArray⟩
theorem strV_len (xs : List (List UInt8)) : (strV xs).length = xs.length := by simp [strV]
end Go.Proofs.YtjgeiieiinmdnaaGreatDoor
namespace Go.Proofs.YtjgeiieiinmdnaaGreatDoor
open Go.RowKit

/-- A slice of n elements of 'size' cells each, whose cells are cs. -/
def IsRow (size : Nat) (v : Value) (n : Nat) (cs : List Value) (w : World) : Prop :=
 cs.length = n * size ∧ ∃ a cap, v = .slice a n cap ∧ (a = none → cap = 0) ∧ (n = 0 ∨ ∃ b off, a = some ⟨b, off, none⟩ ∧ VAt b off cs w)
theorem IsRow.ret {size n : Nat} {v : Value} {cs : List Value} {w w' : World} (h : IsRow size v n cs w) (hb : Below w.heap.size w w') : IsRow size v n cs w' := by
 obtain ⟨hl, a, cap, h1, h0, h2⟩ := h
 refine ⟨hl, a, cap, h1, h0, ?_⟩
 rcases h2 with h2 | ⟨b, off, h2, h3⟩
 ·exact .inl h2
 ·exact .inr ⟨b, off, h2, h3.ret hb⟩
theorem IsRow.nil (size : Nat) (w : World) : IsRow size (.slice none 0 0) 0 [] w := ⟨by simp, none, 0, rfl, fun _ => rfl, .inl rfl⟩
theorem IsRow.of_vals {v : Value} {vs : List Value} {w : World} (h : IsVals v vs w) : IsRow 1 v vs.length vs w := by
 obtain ⟨a, cap, h1, h0, h2⟩ := h
 refine ⟨by simp, a, cap, h1, h0, ?_⟩
 rcases h2 with rfl | h2
 ·exact .inl rfl
 ·exact .inr h2
/-- A row of the call's own. -/
theorem own_row {w : World} {B n size : Nat} {e : TypeId} {v : Value} {cs : List Value} (h : w.ownsRow B e size v n cs) : IsRow size v n cs w := by
 refine ⟨h.1, ?_⟩
 rcases h.2 with ⟨rfl, h0⟩ | ⟨g, cap, cur, rfl, hg1, hg2, hg3⟩
 ·exact ⟨none, 0, by rw [h0], fun _ => rfl, .inl h0⟩
 ·refine ⟨some ⟨g, 0, none⟩, cap, rfl, (fun h => by cases h), .inr ⟨g, 0, rfl, ?_, fun j hj => ?_⟩⟩
  ·rcases Nat.lt_or_ge g w.heap.size with h' | h'
   ·exact h'
   ·simp [Array.getElem?_eq_none h'] at hg2
  ·have := h.cells (g := g) rfl j cs[j] (List.getElem?_eq_getElem hj)
   rw [add_zero_plain] at this
   rw [Nat.zero_add, this]
section
variable {P : Program}
/-- 'append(v, x...)' onto a row of the call's own, whatever row x is. -/
theorem run_app_row (w : World) (base : Nat) (t ty e : TypeId) (i : TypeInfo) (z : Value) (size bytes : Nat) (ht : P.underlying t = some (.slice e)) (hi : P.info? e = some i) (hz : i.zero = some z)
  (hsize : i.size = size) (hby : i.bytes = bytes) (hzs : z.cells.size = size) (hsz : 0 < size)
  (v : Value) (n : Nat) (xs : List Value) (hown : w.ownsRow base e size v n xs) (x : Value) (m : Nat) (ys : List Value) (hx : IsRow size x m ys w) (h1 : ∀ u ∈ ys, u.oneCell' = true)
  (h63 : n + m ≤ 9223372036854775807) (hbytes : (n + m) * bytes ≤ 140737488355328) (hbase : base ≤ w.heap.size) :
  ∃ v' w', (Builtin.append_ #[t, t] ty #[v, x]).run P w = .ok v' w' ∧ w'.ownsRow base e size v' (n + m) (xs ++ ys) ∧ w.grownBy w' v.ownBlock := by
 obtain ⟨hl, a, cap, rfl, h0, hc⟩ := hx
 have h64 : n + m ≤ maxLen := by unfold maxLen; exact h63
 cases a with
 | none =>
  obtain rfl : m = 0 := by
   rcases hc with h | ⟨b, off, h, _⟩
   ·exact h
   ·cases h
  obtain rfl : ys = [] := List.eq_nil_of_length_eq_zero (by simpa using hl)
  refine ⟨v, w, ?_, by simpa using hown, World.grownBy.refl w _⟩
  rcases hown.2 with ⟨rfl, rfl⟩ | ⟨g, cap', cur, rfl, _, _, hnc, _⟩
  ·simp [Builtin.append_, run_underlying ht, sizeOf, typeInfo, hi, Builtin.lenOf, Builtin.firstCells]
  ·simp [Builtin.append_, run_underlying ht, sizeOf, typeInfo, hi, Builtin.lenOf, Builtin.firstCells, hnc, storeCells]
 | some ad =>
  have hcells : ∀ j u, ys[j]? = some u → w.cell? (ad.add j) = some u := by
   intro j u hj
   rcases hc with rfl | ⟨b, off, h, hv⟩
   ·obtain rfl : ys = [] := List.eq_nil_of_length_eq_zero (by simpa using hl)
    simp at hj
   ·cases h
    exact hv.cells j u hj
  obtain ⟨v', w', h2, h3, h4, _⟩ := run_append_own (P := P) w base t ty e i z size bytes ht hi hz hsize hby hzs hsz v n xs hown ad m cap ys hl hcells h1 h64 hbytes hbase
  exact ⟨v', w', h2, h3, h4⟩
theorem wp_app_row {w : World} {o : Oper} {a : Act} {K : Act → World → Prop} {Q : Exit → Act → World → Prop} (s x : Operand) (t : TypeId)
  (ho : o.op = .call { callee := .builtin .append, args := #[s, x], argTypes := #[t, t] })
  (base : Nat) (e : TypeId) (i : TypeInfo) (z : Value) (size bytes : Nat) (ht : P.underlying t = some (.slice e)) (hi : P.info? e = some i) (hz : i.zero = some z)
  (hsize : i.size = size) (hby : i.bytes = bytes) (hzs : z.cells.size = size) (hsz : 0 < size)
  (v : Value) (n : Nat) (xs : List Value) (hs : a.eval s = v) (hown : w.ownsRow base e size v n xs) (y : Value) (hx : a.eval x = y) (m : Nat) (ys : List Value) (hr : IsRow size y m ys w) (h1 : ∀ u ∈ ys, u.oneCell' = true)
  (h63 : n + m ≤ 9223372036854775807) (hbytes : (n + m) * bytes ≤ 140737488355328) (hbase : base ≤ w.heap.size)
  (h : ∀ v' w', w'.ownsRow base e size v' (n + m) (xs ++ ys) → w.grownBy w' v.ownBlock → K (a.put o.dst v') w') : o.wp P a w K Q := by
 obtain ⟨v', w', hrun, h2, h3⟩ := run_app_row (P := P) w base t o.type e i z size bytes ht hi hz hsize hby hzs hsz v n xs hown y m ys hr h1 h63 hbytes hbase
 unfold Oper.wp execOp
 simp only [ho, resolve, invoke, builtin, Sem.run_bind, Sem.run_pure, Result.andThen_ok, List.map_toArray, List.map_cons, List.map_nil, hs, hx, hrun]
 exact h v' w' h2 h3
theorem wpList_app_row {w : World} {ops : Array Oper} {rest : List Oper} {o : Oper} {a : Act} {Q : Exit → Act → World → Prop} (hgd : o.guard = none) (s x : Operand) (t : TypeId)
  (ho : o.op = .call { callee := .builtin .append, args := #[s, x], argTypes := #[t, t] })
  (base : Nat) (e : TypeId) (i : TypeInfo) (z : Value) (size bytes : Nat) (ht : P.underlying t = some (.slice e)) (hi : P.info? e = some i) (hz : i.zero = some z)
  (hsize : i.size = size) (hby : i.bytes = bytes) (hzs : z.cells.size = size) (hsz : 0 < size)
  (v : Value) (n : Nat) (xs : List Value) (hs : a.eval s = v) (hown : w.ownsRow base e size v n xs) (y : Value) (hx : a.eval x = y) (m : Nat) (ys : List Value) (hr : IsRow size y m ys w) (h1 : ∀ u ∈ ys, u.oneCell' = true)
  (h63 : n + m ≤ 9223372036854775807) (hbytes : (n + m) * bytes ≤ 140737488355328) (hbase : base ≤ w.heap.size)
  (h : ∀ v' w', w'.ownsRow base e size v' (n + m) (xs ++ ys) → w.grownBy w' v.ownBlock → wpList P ops Q rest (a.put o.dst v') w') : wpList P ops Q (o :: rest) a w :=
 wpList_plain hgd fun _ hK => wp_app_row s x t ho base e i z size bytes ht hi hz hsize hby hzs hsz v n xs hs hown y hx m ys hr h1 h63 hbytes hbase fun v' w' h2 h3 => hK _ _ (h v' w' h2 h3)
end
end Go.Proofs.YtjgeiieiinmdnaaGreatDoor
namespace Go.Proofs.YtjgeiieiinmdnaaGreatDoor
open Go.RowKit

def isDig (c : UInt8) : Bool := 48 ≤ c.toNat && c.toNat ≤ 57
def valOf (n : Nat) : List UInt8 → Nat
 | [] => n
 | c :: l => valOf (10 * n + (c.toNat - 48)) l
theorem valOf_snoc (l : List UInt8) (c : UInt8) : ∀ n, valOf n (l ++ [c]) = 10 * valOf n l + (c.toNat - 48) := by
 induction l with
 | nil => intro n; rfl
 | cons d l ih => intro n; exact ih _
end Go.Proofs.YtjgeiieiinmdnaaGreatDoor
namespace Go.Proofs.YtjgeiieiinmdnaaGreatDoor
open Go.RowKit Go.Lib

theorem dig_toNat {i : Nat} (h : i < 10) : (UInt8.ofNat (48 + i)).toNat = 48 + i := by
 rw [UInt8.toNat_ofNat']
 exact Nat.mod_eq_of_lt (by omega)
theorem isDig_ofNat {i : Nat} (h : i < 10) : isDig (UInt8.ofNat (48 + i)) = true := by
 unfold isDig
 rw [dig_toNat h]
 simp
 omega
theorem decDigits_big {n : Nat} (h : ¬ n < 10) : decDigits n = decDigits (n / 10) ++ [UInt8.ofNat (48 + n % 10)] := by
 rw [decDigits, dif_neg h]
theorem val_dec : ∀ (k n : Nat), n ≤ k → valOf 0 (decDigits n) = n := by
 intro k
 induction k with
 | zero =>
  intro n h
  obtain rfl : n = 0 := by omega
  rw [decDigits_one (by omega)]
  rfl
 | succ k ih =>
  intro n h
  by_cases hn : n < 10
  ·rw [decDigits_one hn]
   show 10 * 0 + ((UInt8.ofNat (48 + n)).toNat - 48) = n
   rw [dig_toNat hn]
   omega
  ·rw [decDigits_big hn, valOf_snoc, ih (n / 10) (by omega), dig_toNat (Nat.mod_lt n (by omega))]
   omega
theorem valOf_dec (n : Nat) : valOf 0 (decDigits n) = n := val_dec n n (Nat.le_refl n)
theorem dec_inj {m n : Nat} (h : decDigits m = decDigits n) : m = n := by
 rw [← valOf_dec m, h, valOf_dec]
theorem all_dec' : ∀ (k n : Nat), n ≤ k → (decDigits n).all isDig = true := by
 intro k
 induction k with
 | zero =>
  intro n h
  obtain rfl : n = 0 := by omega
  rw [decDigits_one (by omega)]
  rfl
 | succ k ih =>
  intro n h
  by_cases hn : n < 10
  ·rw [decDigits_one hn, List.all_cons, isDig_ofNat hn]
   rfl
  ·rw [decDigits_big hn, List.all_append, ih (n / 10) (by omega), List.all_cons, isDig_ofNat (Nat.mod_lt n (by omega))]
   rfl
theorem all_dec (n : Nat) : (decDigits n).all isDig = true := all_dec' n n (Nat.le_refl n)
theorem len_dec {n : Nat} (h : n ≤ 9007199254740991) : (decDigits n).length ≤ 16 := by
 rw [decDigits_length]
 rcases Nat.lt_or_ge 16 (nDigits n) with h1 | h1
 ·exfalso
  have hb : ¬ n < 10 := by
   intro hn
   rw [nDigits_small hn] at h1
   omega
  -- a number of more than 16 digits is at least 10 ^ 16
  have key : ∀ (k u : Nat), k + 1 ≤ nDigits u → 1 ≤ u → 10 ^ k ≤ u := by
   intro k
   induction k with
   | zero => intro u _ h; simpa using h
   | succ k ih =>
    intro u h hu
    have hu10 : ¬ u < 10 := by
     intro hn
     rw [nDigits_small hn] at h
     omega
    rw [nDigits_big hu10] at h
    have := ih (u / 10) (by omega) (by omega)
    rw [Nat.pow_succ]
    have h2 : 10 ^ k * 10 ≤ u / 10 * 10 := Nat.mul_le_mul_right _ this
    exact Nat.le_trans h2 (Nat.div_mul_le_self u 10)
  have h3 := key 16 n h1 (by omega)
  have h4 : (10 : Nat) ^ 16 = 10000000000000000 := by simp
  rw [h4] at h3
  omega
 ·exact h1
end Go.Proofs.YtjgeiieiinmdnaaGreatDoor
namespace Go.Proofs.YtjgeiieiinmdnaaGreatDoor
open Go.RowKit
end Go.Proofs.YtjgeiieiinmdnaaGreatDoor
