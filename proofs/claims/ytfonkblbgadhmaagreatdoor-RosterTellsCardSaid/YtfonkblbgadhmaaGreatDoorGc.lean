/- AsJ, AsK, Range, AsL, AsM, AsN, AsUa, AsWq, AsXp, Tab, Spl, Ml, RangeG: put together by mergetpl.py. -/
import Derived.Test.YtfonkblbgadhmaaGreatDoorGb
import Derived.Test.YtfonkblbgadhmaaGreatDoorShelf
import Derived.Shelf.Strings.SlTrimAscii
import Derived.Lib.Bytealg
import Derived.RangeFuncNested
import Derived.RangeFuncBound
import Derived.RangeFuncCalls
import Derived.RangeFuncLeaves
import Derived.RangeFuncBox
import Derived.Test.YtfonkblbgadhmaaGreatDoorGa
import Derived.WalkKit
import Derived.OwnWalkIn
import Derived.TacticsInMore
import Derived.LoopNIn
import Derived.LoopIn
import Derived.Laws.ResultCell
import Derived.Deep.Onto
import Derived.WalkSmall
import Derived.Lib.ItoaMem
import Derived.Lib.SplitLaws
import Derived.Lib.IndexBytes
import Derived.ShapedOpen
import Derived.Shelf.Vars
namespace Go.Proofs.YtfonkblbgadhmaaGreatDoor
open Go.RowKit

theorem blk_mem (c : UInt8) : ([32, 9] : List UInt8).contains c = blk c := by
  unfold blk
  rw [List.contains_cons, List.contains_cons, List.contains_nil, Bool.or_false]
theorem trmR_cons (c : UInt8) (l : List UInt8) : trmR (c :: l) = if (trmR l).isEmpty then (if blk c then [] else [c]) else c :: trmR l := by
  unfold trmR
  rw [List.reverse_cons, List.dropWhile_append]
  cases h : (l.reverse.dropWhile blk).isEmpty with
  | true =>
    rw [if_pos rfl, if_pos (by rw [List.isEmpty_iff] at h ⊢; rw [h]; rfl)]
    cases hc : blk c <;> simp [hc]
  | false =>
    rw [if_neg (by simp), if_neg (by simp only [Bool.not_eq_true]; rw [List.isEmpty_eq_false_iff] at h ⊢; simpa using h)]
    simp
theorem trm_comm (l : List UInt8) : trm l = (trmR l).dropWhile blk := by
  induction l with
  | nil => rfl
  | cons c l ih =>
    rw [trmR_cons]
    cases hc : blk c with
    | true =>
      rw [trm_cons hc, ih]
      cases h : (trmR l).isEmpty with
      | true =>
        rw [List.isEmpty_iff] at h
        rw [h]
        rfl
      | false =>
        rw [if_neg (by simp), List.dropWhile_cons_of_pos hc]
    | false =>
      rw [trm_eq hc, trmR_cons, hc]
      cases h : (trmR l).isEmpty with
      | true => simp [hc]
      | false => simp [hc]
theorem dropW_rev (l : List UInt8) : trm l = Lib.trimS l [32, 9] := by
  have hb : (fun c => ([32, 9] : List UInt8).contains c) = blk := funext blk_mem
  rw [trm_comm]
  unfold Lib.trimS Lib.trimLeftS Lib.trimRightS
  rw [hb]
  rfl
end Go.Proofs.YtfonkblbgadhmaaGreatDoor
namespace Go.Proofs.YtfonkblbgadhmaaGreatDoor
open Go.RowKit

/-- What stands ahead of a byte, and behind it. -/
def cA (c : UInt8) (l : List UInt8) : List UInt8 := l.takeWhile (· != c)
def cR (c : UInt8) (l : List UInt8) : List UInt8 := (l.dropWhile (· != c)).drop 1
theorem ib_cases (c : UInt8) (l : List UInt8) : (Lib.indexByte l c = -1 ∧ cA c l = l ∧ cR c l = [] ∧ l.contains c = false) ∨ ∃ i : Nat, Lib.indexByte l c = i ∧ i < l.length ∧ cA c l = l.take i ∧ cR c l = l.drop (i + 1) ∧ l.contains c = true := by
  induction l with
  | nil => exact .inl ⟨rfl, rfl, rfl, rfl⟩
  | cons b l ih =>
    by_cases hb : b = c
    · subst hb
      refine .inr ⟨0, by simp [Lib.indexByte], by simp, by simp [cA], by simp [cR], by simp⟩
    · have hb1 : (b == c) = false := by simpa using hb
      have hcb : (c == b) = false := by rw [beq_comm_u8]; exact hb1
      have h1 : cA c (b :: l) = b :: cA c l := by unfold cA; simp [hb]
      have h2 : cR c (b :: l) = cR c l := by unfold cR; simp [hb]
      rcases ih with ⟨i1, i2, i3, i4⟩ | ⟨i, i1, i0, i2, i3, i4⟩
      · refine .inl ⟨by simp [Lib.indexByte, hb1, i1], by rw [h1, i2], by rw [h2, i3], by rw [List.contains_cons, hcb, i4]; rfl⟩
      · refine .inr ⟨i + 1, ?_, by simp; omega, by rw [h1, i2]; rfl, by rw [h2, i3]; rfl, by rw [List.contains_cons, i4, Bool.or_true]⟩
        have hne : ¬ (i : Int) = -1 := by omega
        simp [Lib.indexByte, hb1, i1, hne]
theorem cR_lt (c : UInt8) {l : List UInt8} (h : l ≠ []) : (cR c l).length < l.length := by
  have hp : 0 < l.length := List.length_pos_iff.2 h
  rcases ib_cases c l with ⟨_, _, h3, _⟩ | ⟨i, _, hi, _, h3, _⟩
  · rw [h3]
    simpa using hp
  · rw [h3, List.length_drop]
    omega
theorem cA_le (c : UInt8) (l : List UInt8) : (cA c l).length ≤ l.length := (List.takeWhile_sublist _).length_le
theorem cutG_step (c : UInt8) (l : List UInt8) : ∀ cur, cutG c cur l = (cur ++ cA c l) :: (if l.contains c then cutG c [] (cR c l) else []) := by
  induction l with
  | nil => intro cur; simp [cutG, cA]
  | cons b l ih =>
    intro cur
    simp only [cutG]
    by_cases hb : b = c
    · subst hb
      rw [if_pos rfl]
      simp [cA, cR]
    · have hb2 : (b != c) = true := by simpa using hb
      have hcb : (c == b) = false := by rw [beq_comm_u8]; simpa using hb
      rw [if_neg hb, ih, List.contains_cons, hcb, Bool.false_or]
      have h1 : cA c (b :: l) = b :: cA c l := by unfold cA; simp [hb]
      have h2 : cR c (b :: l) = cR c l := by unfold cR; simp [hb]
      rw [h1, h2]
      simp
theorem lstP_nil : lstP [] = [] := rfl
theorem lstP_step (l : List UInt8) : lstP l = (if (trm (cA 44 l)).isEmpty then [] else [lowL (trm (cA 44 l))]) ++ lstP (cR 44 l) := by
  have h0 : lstP l = lstG (cutG 44 [] l) := rfl
  rw [h0, cutG_step, List.nil_append]
  have hc : ∀ (p : List UInt8) (ps : List (List UInt8)), lstG (p :: ps) = (if (trm p).isEmpty then [] else [lowL (trm p)]) ++ lstG ps := by
    intro p ps
    unfold lstG
    simp only [List.map_cons, List.filter_cons]
    cases h : (trm p).isEmpty <;> simp
  rw [hc]
  congr 1
  cases h : l.contains 44 with
  | true => rfl
  | false =>
    rcases ib_cases 44 l with ⟨_, _, h3, _⟩ | ⟨i, _, _, _, _, h4⟩
    · rw [h3]
      rfl
    · rw [h] at h4
      cases h4
set_option maxHeartbeats 2000000 in
theorem sl_Cut1 (s : ByteArray) (c : UInt8) (w : World) (hs : s.size ≤ 1000000) :
    Calls Tryz.prog 116 #[.string s, .string ⟨#[c]⟩] w (Ret w (.tuple #[.string ⟨(cA c s.data.toList).toArray⟩, .string ⟨(cR c s.data.toList).toArray⟩, .bool (s.data.toList.contains c)])) := by
  have I := fun w => Tryz.stringslite_Index_one s c w
  obtain ⟨b, hb⟩ : ∃ b, s.data.toList.contains c = b := ⟨_, rfl⟩
  obtain ⟨x, hx⟩ : ∃ x, cA c s.data.toList = x := ⟨_, rfl⟩
  obtain ⟨y, hy⟩ : ∃ y, cR c s.data.toList = y := ⟨_, rfl⟩
  rcases ib_cases c s.data.toList with ⟨h1, h2, h3, h4⟩ | ⟨i, h1, h0, h2, h3, h4⟩
  · rw [h1] at I
    rw [hb, hx, hy]
    rw [hb] at h4
    rw [hx] at h2
    rw [hy] at h3
    subst h4
    subst h3
    have hxs : (⟨x.toArray⟩ : ByteArray) = s := by rw [h2, str_mk]
    have IH := Lib.hid I
    have HX := Lib.hid hxs
    clear I hb hx hy h1 h2 hxs
    go_enter Tryz.func116, Tryz.ntmps116
    go_wp2_with fail
    refine (IH.out _).mono ?_
    rintro e w1 ⟨rfl, rfl⟩
    go_wp2_with fail
    go_ret3
    rw [HX.out]
    exact ⟨rfl, Below.refl _ _⟩
  · rw [h1] at I
    rw [hb, hx, hy]
    rw [hb] at h4
    rw [hx] at h2
    rw [hy] at h3
    rw [size_toList] at h0
    subst h4
    have hxs : (⟨x.toArray⟩ : ByteArray) = s.extract 0 i := str_ext (by rw [ext_data, h2]; rfl)
    have hys : (⟨y.toArray⟩ : ByteArray) = s.extract (i + 1) s.size := str_ext (by rw [ext_tail, h3])
    have IH := Lib.hid I
    have HX := Lib.hid hxs
    have HY := Lib.hid hys
    have g1 : (i : Int) ≤ s.size := by omega
    have e1 : IntKind.i64.wrap ((i : Int) + 1) = (i : Int) + 1 := IntWalk.i64_in _ (by omega)
    have e2 : (0 : Int) ≤ (i : Int) + 1 := by omega
    have e3 : ((i : Int) + 1).toNat = i + 1 := by omega
    have e4 : (i : Int) + 1 ≤ s.size := by omega
    clear I hb hx hy h1 h2 h3 hxs hys
    go_enter Tryz.func116, Tryz.ntmps116
    go_wp2_with fail
    refine (IH.out _).mono ?_
    rintro e w1 ⟨rfl, rfl⟩
    go_wp2_with fail
    go_quiet (fail)
    go_wp2_with fail
    go_ret3
    rw [HX.out, HY.out]
    exact ⟨rfl, below_drewN _ _⟩
theorem st_Cut1 (s : ByteArray) (c : UInt8) (w : World) (hs : s.size ≤ 1000000) :
    Calls Tryz.prog 103 #[.string s, .string ⟨#[c]⟩] w (Ret w (.tuple #[.string ⟨(cA c s.data.toList).toArray⟩, .string ⟨(cR c s.data.toList).toArray⟩, .bool (s.data.toList.contains c)])) := by
  have C := Lib.hid (sl_Cut1 s c w hs)
  obtain ⟨b, hb⟩ : ∃ b, s.data.toList.contains c = b := ⟨_, rfl⟩
  obtain ⟨x, hx⟩ : ∃ x, cA c s.data.toList = x := ⟨_, rfl⟩
  obtain ⟨y, hy⟩ : ∃ y, cR c s.data.toList = y := ⟨_, rfl⟩
  rw [hb, hx, hy] at C ⊢
  clear hb hx hy
  go_enter Tryz.func103, Tryz.ntmps103
  go_wp2_with fail
  refine (C.out).mono ?_
  rintro e w1 ⟨rfl, hb⟩
  go_wp2_with fail
  go_ret3
  exact ⟨rfl, hb⟩
end Go.Proofs.YtfonkblbgadhmaaGreatDoor
namespace Go.Proofs.YtfonkblbgadhmaaGreatDoor
open Go.RowKit

/-- What the iterator may turn: new blocks, and its own variable's. -/
def AbV {β : Type} (B : Nat) (J : β → World → Prop) : Prop := ∀ s W W' row, J s W → W.grownBy W' row → (∀ r, row = some r → r = B) → J s W'
/-- What the caller's invariant abides. -/
def OwnV {β : Type} (B D : Nat) (I : β → World → Prop) : Prop := ∀ s W W' row, I s W → W.grownBy W' row → (∀ r, row = some r → r = B ∨ (D ≤ r ∧ ∃ o : Obj, W.heap[r]? = some o ∧ o.isCells = false)) → I s W'
/-- What a round keeps for the iterator: its variable. -/
def KeepV (B : Nat) (W W' : World) : Prop := W.heap.size ≤ W'.heap.size ∧ W'.heap[B]? = W.heap[B]?
/-- The contract of such an iterator. -/
def SeqV {α : Type} (P : Program) (g : Nat) (lb : Array Value) (encs : α → Array Value) (B : Nat) (S Sp : List α → Prop) (N : Nat) (w : World) : Prop :=
  ∀ (l : Nat) (J Jx : List α → World → Prop) (W : World), Below w.heap.size w W → AbV B J → AbV B Jx →
    (∀ pre x W1, J pre W1 → pre.length < N → YieldAt Fence.wide 1 P l (encs x) W1 fun e W' =>
      (e = .returned (.bool true) ∧ J (pre ++ [x]) W' ∧ KeepV B W1 W') ∨ (e = .returned (.bool false) ∧ Jx (pre ++ [x]) W')) →
    J [] W →
    CallsIn Fence.wide 2 P g (#[.func (.yield l) #[] #[]] ++ lb) W fun e W' => (∃ v, e = .returned v) ∧ ((∃ xs, S xs ∧ J xs W') ∨ (∃ pre, Sp pre ∧ Jx pre W'))
/-- How a round's body may be left. -/
def postV {α : Type} (B : Nat) (I : List α → World → Prop) (Ix : Code → List α → World → Prop) (xs : List α) (W : World) : Exit → Act → World → Prop
  | .normal, _, W' => KeepsOthers W W' ∧ KeepV B W W' ∧ I xs W'
  | .ret, _, W' => KeepsOthers W W' ∧ Ix .ret xs W'
  | .exit id, _, W' => KeepsOthers W W' ∧ Ix (.exit id) xs W'
  | .goto t, _, W' => KeepsOthers W W' ∧ Ix (.goto t) xs W'
  | .panic _, _, _ => False
  | .outgrown, _, _ => False
theorem keepV_put {B l : Nat} (W : World) (o : Obj) (h : B ≠ l) : KeepV B W (W.putObj l o) := ⟨by simp, World.putObj_heap_other h⟩
theorem keepV_trans {B : Nat} {W1 W2 W3 : World} (h : KeepV B W1 W2) (k : KeepV B W2 W3) : KeepV B W1 W3 := ⟨Nat.le_trans h.1 k.1, k.2.trans h.2⟩
theorem ownV_alloc {β : Type} {B D : Nat} {I : β → World → Prop} (h : OwnV B D I) {s : β} {W : World} (o : Obj) (hs : I s W) : I s (W.alloc o) :=
  h s W _ none hs (World.grownBy_alloc W o none) (fun r e => by cases e)
theorem ownV_put {β : Type} {B D : Nat} {I : β → World → Prop} (h : OwnV B D I) {s : β} {W : World} {l : Nat} {o : Obj} (o' : Obj) (hs : I s W) (hD : D ≤ l) (hl : W.heap[l]? = some o) (ho : o.isCells = false) : I s (W.putObj l o') :=
  h s W _ (some l) hs (grownBy_putObj' W l o') (fun r e => by cases e; exact .inr ⟨hD, o, hl, ho⟩)
theorem lt_of_get {W : World} {l : Nat} {o : Obj} (h : W.heap[l]? = some o) : l < W.heap.size := (Array.getElem?_eq_some_iff.1 h).1

set_option maxHeartbeats 1000000 in
/-- THE LAW. -/
theorem range_law {α : Type} {P : Program} {g : Operand} {ps : Array Tmp} {assign body : Code} {Q : Exit → Act → World → Prop} {a : Act} {w : World} {gf : Nat} {lb : Array Value}
    (hg : a.eval g = .func (.func gf) #[] lb) (eg : ∀ args w, (callFunc gf args).run P w = .ok (.enter gf args) w) {B : Nat} (hB : B < w.heap.size)
    {encs : α → Array Value} {S Sp : List α → Prop} {N : Nat} (hseq : SeqV P gf lb encs B S Sp N w) (hps : ∀ x, (encs x).size = ps.size)
    (I : List α → World → Prop) (Ix : Code → List α → World → Prop) (hI : OwnV B w.heap.size I) (hIx : ∀ c, OwnV B w.heap.size (Ix c)) (h0 : I [] w) (a₁ : α → Act)
    (hassign : ∀ (l : Nat) (x : α) (W : World) (K : Act → World → Prop), K (a₁ x) W →
      assign.wpIn (Fence.wide.inRound l) 1 P (Exit.then K (fun _ _ _ => False)) { tmps := (ps.zip (encs x)).foldl (fun t (p, v) => t.setIfInBounds p v) a.tmps, defers := [] } W)
    (hbody : ∀ (l : Nat) (pre : List α) (x : α) (W : World), I pre W → pre.length < N → body.wpIn (Fence.wide.inRound l) 1 P (postV B I Ix (pre ++ [x]) W) (a₁ x) W)
    (hdone : ∀ (D : Nat) (xs : List α) (W : World), w.heap.size ≤ D → S xs → I xs W → W.heap[D]? = some (.deferred (some [])) → Q .normal { a with defers := { target := .collected D, args := #[] } :: a.defers } W)
    (hstop : ∀ (D : Nat) (c : Code) (pre : List α) (W : World), w.heap.size ≤ D → Sp pre → Ix c pre W → W.heap[D]? = some (.deferred (some [])) → c.wpIn Fence.wide 3 P Q { a with defers := { target := .collected D, args := #[] } :: a.defers } W) :
    (Code.rangeFunc g ps assign body).wpIn Fence.wide 3 P Q a w := by
  refine wpIn_rangeFunc fun fn _ => ?_
  let lp : LoopState → Option Code → Obj := fun st pe => .loop { state := st, pending := pe, fn, tmps := a.tmps, params := ps, assign, body, defers := w.heap.size }
  obtain ⟨W1, hW1⟩ : ∃ W1, (w.alloc (.deferred (some []))).alloc (lp .ready none) = W1 := ⟨_, rfl⟩
  have hbel : Below w.heap.size w W1 := by
    rw [← hW1]
    exact ((Below.refl _ w).alloc (Nat.le_refl _) _).alloc (by simp) _
  have hrec : W1.heap[w.heap.size + 1]? = some (lp .ready none) := by
    rw [← hW1]
    have := World.alloc_heap_new (w.alloc (.deferred (some []))) (lp .ready none)
    rwa [World.size_alloc] at this
  have hdef : W1.heap[w.heap.size]? = some (.deferred (some [])) := by
    rw [← hW1]
    exact (Below.heap_alloc _ _ _ (by simp)).trans (World.alloc_heap_new w _)
  refine ⟨w.heap.size + 1, [{ target := .collected w.heap.size, args := #[] }], W1, { target := .fn (.func gf) lb, args := #[.func (.yield (w.heap.size + 1)) #[] #[]] }, W1, gf, #[.func (.yield (w.heap.size + 1)) #[] #[]] ++ lb, W1, ?_, ?_, ?_, ?_, fun _ => by omega, ?_⟩
  · rw [← hW1]
    exact run_enterLoop_outer _ _ _ _ _
  · simp only [resolve, hg]
    simp [go_sem]
  · intro f' _
    trivial
  · simp [invoke, go_sem, eg]
  · refine (hseq (w.heap.size + 1) (fun pre W => I pre W ∧ W.heap[w.heap.size + 1]? = some (lp .ready none) ∧ W.heap[w.heap.size]? = some (.deferred (some [])))
      (fun pre W => ∃ c, Ix c pre W ∧ W.heap[w.heap.size + 1]? = some (lp .done (some c)) ∧ W.heap[w.heap.size]? = some (.deferred (some []))) W1 hbel ?abJ ?abX ?round ⟨?start, hrec, hdef⟩).mono ?behind
    case start =>
      rw [← hW1]
      exact ownV_alloc hI _ (ownV_alloc hI _ h0)
    case abJ =>
      rintro s A C row ⟨i, r, d⟩ hg' hr
      refine ⟨hI s A C row i hg' (fun r e => .inl (hr r e)), ?_, ?_⟩
      · exact (hg'.block _ (lt_of_get r) (fun e => by have := hr _ e.symm; omega)).trans r
      · exact (hg'.block _ (lt_of_get d) (fun e => by have := hr _ e.symm; omega)).trans d
    case abX =>
      rintro s A C row ⟨c, i, r, d⟩ hg' hr
      refine ⟨c, hIx c s A C row i hg' (fun r e => .inl (hr r e)), ?_, ?_⟩
      · exact (hg'.block _ (lt_of_get r) (fun e => by have := hr _ e.symm; omega)).trans r
      · exact (hg'.block _ (lt_of_get d) (fun e => by have := hr _ e.symm; omega)).trans d
    case behind =>
      rintro e W2 ⟨⟨v, rfl⟩, h⟩
      rcases h with ⟨xs, hS, i, r, d⟩ | ⟨pre, hSp, c, i, r, d⟩
      · exact ⟨none, _, run_endLoop r (by simp), hdone _ xs _ (Nat.le_refl _) hS (ownV_put hI _ i (by omega) r rfl) ((World.putObj_heap_other (by omega)).trans d)⟩
      · exact ⟨some c, _, run_endLoop r (by simp), hstop _ c pre _ (Nat.le_refl _) hSp (ownV_put (hIx c) _ i (by omega) r rfl) ((World.putObj_heap_other (by omega)).trans d)⟩
    case round =>
      rintro pre x W ⟨i, r, d⟩ hlen
      refine ⟨fn, _, assign, body, run_yield (args := encs x) r (hps x), roundIn_of_wpIn trivial (hassign _ x W _ ⟨_, run_beginRound r rfl, ?_⟩)⟩
      have hl1 := lt_of_get r
      refine wpIn_mono (hbody _ pre x _ (ownV_put hI _ i (by omega) r rfl) hlen) ?_
      have busy : (W.putObj (w.heap.size + 1) (lp .busy none)).heap[w.heap.size + 1]? = some (lp .busy none) := World.putObj_heap_same hl1
      have dbusy : (W.putObj (w.heap.size + 1) (lp .busy none)).heap[w.heap.size]? = some (.deferred (some [])) := (World.putObj_heap_other (by omega)).trans d
      have leave : ∀ (jump : Option Code) (W3 : World), KeepsOthers (W.putObj (w.heap.size + 1) (lp .busy none)) W3 →
          (Instr.endRound (w.heap.size + 1) jump).run P W3 = .ok (.bool jump.isNone) (W3.putObj (w.heap.size + 1) (lp (if jump.isNone then .ready else .done) jump)) ∧ W3.heap[w.heap.size + 1]? = some (lp .busy none) ∧
          (W3.putObj (w.heap.size + 1) (lp (if jump.isNone then .ready else .done) jump)).heap[w.heap.size + 1]? = some (lp (if jump.isNone then .ready else .done) jump) ∧
          (W3.putObj (w.heap.size + 1) (lp (if jump.isNone then .ready else .done) jump)).heap[w.heap.size]? = some (.deferred (some [])) := by
        intro jump W3 hk
        have b3 := hk.same _ _ busy rfl
        exact ⟨run_endRound jump b3, b3, World.putObj_heap_same (lt_of_get b3), (World.putObj_heap_other (by omega)).trans (hk.same _ _ dbusy rfl)⟩
      rintro e a3 W3 hp
      cases e with
      | panic ch => exact hp.elim
      | outgrown => exact hp.elim
      | normal =>
        obtain ⟨hk, hv, hi⟩ := hp
        obtain ⟨q1, q2, q3, q4⟩ := leave none W3 hk
        exact ⟨_, _, q1, .inl ⟨rfl, ⟨ownV_put hI _ hi (by omega) q2 rfl, q3, q4⟩, keepV_trans (keepV_trans (keepV_put W _ (by omega)) hv) (keepV_put W3 _ (by omega))⟩⟩
      | ret =>
        obtain ⟨hk, hi⟩ := hp
        obtain ⟨q1, q2, q3, q4⟩ := leave (some .ret) W3 hk
        exact ⟨_, _, q1, .inr ⟨rfl, .ret, ownV_put (hIx _) _ hi (by omega) q2 rfl, q3, q4⟩⟩
      | exit id =>
        obtain ⟨hk, hi⟩ := hp
        obtain ⟨q1, q2, q3, q4⟩ := leave (some (.exit id)) W3 hk
        exact ⟨_, _, q1, .inr ⟨rfl, .exit id, ownV_put (hIx _) _ hi (by omega) q2 rfl, q3, q4⟩⟩
      | goto t =>
        obtain ⟨hk, hi⟩ := hp
        obtain ⟨q1, q2, q3, q4⟩ := leave (some (.goto t)) W3 hk
        exact ⟨_, _, q1, .inr ⟨rfl, .goto t, ownV_put (hIx _) _ hi (by omega) q2 rfl, q3, q4⟩⟩
end Go.Proofs.YtfonkblbgadhmaaGreatDoor
namespace Go.Proofs.YtfonkblbgadhmaaGreatDoor
open Go.RowKit

attribute [local go_sem] Oper.semAt_some

def boxLen (B : Nat) (W : World) : Nat := match W.cell? ⟨B, 0, none⟩ with | some (.string s) => s.size | _ => 0
theorem boxLen_eq {B : Nat} {W : World} {s : ByteArray} (h : Boxed W B 9 (.string s)) : boxLen B W = s.size := by
  unfold boxLen
  rw [h.cell]
def encL (x : List UInt8) : Array Value := #[.string ⟨x.toArray⟩]
theorem grown_of_below {w w' : World} (h : Below w.heap.size w w') (row : Option Nat) : w.grownBy w' row := ⟨h.os, h.tape, h.output, h.size, fun k hk _ => h.block k hk⟩
theorem boxed_below {B : Nat} {t : TypeId} {v : Value} {w w' : World} (h : Boxed w B t v) (hb : Below w.heap.size w w') : Boxed w' B t v := (hb.block B h.lt).trans h

end Go.Proofs.YtfonkblbgadhmaaGreatDoor
namespace Go.Proofs.YtfonkblbgadhmaaGreatDoor
open Go.RowKit

end Go.Proofs.YtfonkblbgadhmaaGreatDoor
namespace Go.Proofs.YtfonkblbgadhmaaGreatDoor
open Go.RowKit

attribute [local go_sem] Oper.semAt_some

/-- What List's rounds keep: the result's box holds a slice of the call's own. -/
def LstI (R B : Nat) (w : World) (pre : List (List UInt8)) (W : World) : Prop :=
  (∃ v, Boxed W R 27 v ∧ W.ownsRow (B + 1) 9 1 v pre.length (strV pre)) ∧ Below R w W ∧ B < W.heap.size
theorem one_new (w : World) (y : Value) (e : TypeId) : ∀ j u, [y][j]? = some u → (w.alloc (.cells #[y] e)).cell? ((⟨w.heap.size, 0, none⟩ : Addr).add j) = some u := by
  intro j u hj
  match j, hj with
  | 0, hj => simp at hj; subst hj; simp [Addr.add]
theorem row_low {w : World} {base : Nat} {e : TypeId} {size : Nat} {v : Value} {n : Nat} {xs : List Value} (h : w.ownsRow base e size v n xs) {b : Nat} (hb : b < base) : some b ≠ v.ownBlock := by
  rcases h.2 with ⟨rfl, _⟩ | ⟨g, cap, cur, rfl, hg, _⟩
  · simp [Value.ownBlock]
  · intro e
    have : b = g := by simpa [Value.ownBlock] using e
    omega
theorem lstI_own {R B D : Nat} {w : World} (hR : R = w.heap.size) (hB : B = R + 1) (hD : R ≤ D) : OwnV B D (LstI R B w) := by
  rintro s W W' row ⟨⟨v, hv, hr⟩, hb, hl⟩ hg hrow
  refine ⟨⟨v, hv.kept hg ?_, hr.kept hg ?_⟩, hb.grown hg ?_ ?_, Nat.lt_of_lt_of_le hl hg.size⟩
  · intro e
    rcases hrow R e.symm with h | ⟨_, o, ho, hc⟩
    · omega
    · rw [show W.heap[R]? = _ from hv] at ho
      cases ho
      cases hc
  · rcases hr.2 with ⟨rfl, _⟩ | ⟨g, cap, cur, rfl, hgl, hgb, _⟩
    · exact .inl rfl
    · refine .inr fun e => ?_
      have e' : row = some g := e.symm
      rcases hrow g e' with h | ⟨_, o, ho, hc⟩
      · omega
      · rw [hgb] at ho
        cases ho
        cases hc
  · have := hb.size
    omega
  · intro k hk
    rcases hrow k hk with h | ⟨h, _⟩
    · omega
    · omega
theorem lst_end {w W2 : World} {D R : Nat} {v : Value} (hR : R = w.heap.size) (hb : Below R w W2) (hbx : Boxed W2 R 27 v) (hK : W2.heap[D]? = some (.deferred (some []))) (hD : R ≤ D) (nv : Value) :
    (W2.setCell ⟨R, 0, none⟩ nv).heap[D]? = some (.deferred (some [])) ∧ Boxed ((W2.setCell ⟨R, 0, none⟩ nv).putObj D (.deferred none)) R 27 nv ∧ Below w.heap.size w ((W2.setCell ⟨R, 0, none⟩ nv).putObj D (.deferred none)) := by
  have hne : D ≠ R := by
    rintro rfl
    rw [show W2.heap[D]? = _ from hbx] at hK
    cases hK
  have h1 : (W2.setCell ⟨R, 0, none⟩ nv).heap[D]? = some (.deferred (some [])) := (Below.heap_setCell _ _ _ D hne).trans hK
  refine ⟨h1, (hbx.set nv).kept (grownBy_putObj' _ D _) (fun e => hne (by cases e; rfl)), ?_⟩
  subst hR
  have hs := hb.size
  refine (hb.setCell (p := ⟨w.heap.size, 0, none⟩) (Nat.le_refl _) nv).grown (grownBy_putObj' _ D _) ?_ (fun k hk => by cases hk; exact hD)
  exact Nat.le_trans hs (grownBy_setCell' W2 w.heap.size nv).size
theorem ret_cell {fn : Func} {tmps : Array Value} {W : World} {R : Nat} {v e : Value} (h : fn.results = #[.cell 2 27, .tmp 3]) (h2 : tmps.getD 2 undef = .pointer (some ⟨R, 0, none⟩)) (h3 : tmps.getD 3 undef = e) (hbx : Boxed W R 27 v) :
    (results fn tmps).run Tryz.prog W = .ok (.tuple #[v, e]) W := by
  have hc := hbx.cell
  rw [results_cell_tmp h, h2, h3]
  simp [go_sem, Result.andThen, hc]
end Go.Proofs.YtfonkblbgadhmaaGreatDoor
namespace Go.Proofs.YtfonkblbgadhmaaGreatDoor
open Go.RowKit

theorem ret_thru {w w1 w2 : World} (h1 : Below w.heap.size w w1) (h2 : Below w1.heap.size w1 w2) : Below w.heap.size w w2 := h1.trans (h2.mono h1.size)
theorem bytes_of {l : List UInt8} {t : ByteArray} (h : l = t.data.toList) : (⟨l.toArray⟩ : ByteArray) = t := str_ext h
theorem lower_at (s t : ByteArray) (w : World) (hs : s.size ≤ 1000000) (h : lowL s.data.toList = t.data.toList) : Calls Tryz.prog 104 #[.string s] w (Ret w (.string t)) := by
  have := as_Lower s w hs
  rwa [bytes_of h] at this
theorem two_vals (w : World) (x y : List UInt8) : IsVals (.slice (some ⟨w.heap.size, 0, none⟩) 2 2) (strV [x, y]) (w.alloc (.cells #[.string ⟨x.toArray⟩, .string ⟨y.toArray⟩] 9)) := by
  refine ⟨some ⟨w.heap.size, 0, none⟩, 2, rfl, (fun h => by cases h), .inr ⟨w.heap.size, 0, rfl, by simp, fun j hj => ?_⟩⟩
  simp [strV] at hj
  rw [Nat.zero_add, World.cell?_alloc_new]
  match j, hj with
  | 0, _ => rfl
  | 1, _ => rfl
end Go.Proofs.YtfonkblbgadhmaaGreatDoor
namespace Go.Proofs.YtfonkblbgadhmaaGreatDoor
open Go.RowKit

theorem loB_again' : ∀ n : Fin 256, loB (loB (UInt8.ofNat n.val)) = loB (UInt8.ofNat n.val) := by decide +kernel
theorem u8_ofNat (c : UInt8) : UInt8.ofNat c.toNat = c := by simp
theorem loB_again (c : UInt8) : loB (loB c) = loB c := by
  have := loB_again' ⟨c.toNat, c.toNat_lt⟩
  simpa using this
theorem lowL_again (l : List UInt8) : lowL (lowL l) = lowL l := by
  unfold lowL
  rw [List.map_map]
  exact List.map_congr_left fun c _ => loB_again c
theorem tokC_lo' : ∀ n : Fin 256, tokC (loB (UInt8.ofNat n.val)) = tokC (UInt8.ofNat n.val) := by decide +kernel
theorem tokC_lo (c : UInt8) : tokC (loB c) = tokC c := by
  have := tokC_lo' ⟨c.toNat, c.toNat_lt⟩
  simpa using this
theorem tok_low (l : List UInt8) : tok (lowL l) = tok l := by
  unfold tok lowL
  rw [List.all_map]
  congr 1
  · cases l <;> rfl
  · congr 1
    funext c
    exact tokC_lo c
theorem blk_plain' : ∀ n : Fin 256, blk (UInt8.ofNat n.val) = true → plnC (UInt8.ofNat n.val) = true := by decide +kernel
theorem blk_plain {c : UInt8} (h : blk c = true) : plnC c = true := by
  have := blk_plain' ⟨c.toNat, c.toNat_lt⟩
  simp only [u8_ofNat] at this
  exact this h
theorem drop_split (p : UInt8 → Bool) (l : List UInt8) : l = l.takeWhile p ++ l.dropWhile p := (List.takeWhile_append_dropWhile).symm
theorem tw_all (p : UInt8 → Bool) (l : List UInt8) : (l.takeWhile p).all p = true := by
  rw [List.all_eq_true]
  intro x hx
  induction l with
  | nil => cases hx
  | cons c l ih =>
    by_cases hc : p c = true
    · rw [List.takeWhile_cons_of_pos hc] at hx
      rcases List.mem_cons.1 hx with rfl | hx
      · exact hc
      · exact ih hx
    · rw [List.takeWhile_cons_of_neg hc] at hx
      cases hx
/-- What is trimmed stands in the text between blanks. -/
theorem trm_split (l : List UInt8) : ∃ p q, l = p ++ trm l ++ q ∧ p.all blk = true ∧ q.all blk = true := by
  refine ⟨l.takeWhile blk, ((l.dropWhile blk).reverse.takeWhile blk).reverse, ?_, tw_all _ _, ?_⟩
  · have h1 := drop_split blk (l.dropWhile blk).reverse
    have h2 := congrArg List.reverse h1
    rw [List.reverse_reverse, List.reverse_append] at h2
    unfold trm
    rw [List.append_assoc, ← h2]
    exact drop_split blk l
  · rw [List.all_reverse]
    exact tw_all _ _
theorem dw_head (p : UInt8 → Bool) (l : List UInt8) : l.dropWhile p = [] ∨ ∃ c r, l.dropWhile p = c :: r ∧ p c = false := by
  induction l with
  | nil => exact .inl rfl
  | cons c l ih =>
    by_cases hc : p c = true
    · rw [List.dropWhile_cons_of_pos hc]
      exact ih
    · rw [List.dropWhile_cons_of_neg hc]
      exact .inr ⟨c, l, rfl, by simpa using hc⟩
/-- .. and begins and ends with none. -/
theorem trm_last (l : List UInt8) : trm l = [] ∨ ∃ r c, trm l = r ++ [c] ∧ blk c = false := by
  rcases dw_head blk (l.dropWhile blk).reverse with h | ⟨c, r, h, hc⟩
  · left
    unfold trm
    rw [h]
    rfl
  · right
    refine ⟨r.reverse, c, ?_, hc⟩
    unfold trm
    rw [h, List.reverse_cons]
theorem trm_head (l : List UInt8) : trm l = [] ∨ ∃ c r, trm l = c :: r ∧ blk c = false := by
  rw [trm_comm]
  exact dw_head blk _
theorem trm_again (l : List UInt8) : trm (trm l) = trm l := by
  rcases trm_head l with h | ⟨c, r, h, hc⟩
  · rw [h]
    rfl
  · rcases trm_last l with h2 | ⟨r2, c2, h2, hc2⟩
    · rw [h2]
      rfl
    · have h3 : trm (trm l) = trmR (trm l) := by rw [h]; exact trm_eq hc
      rw [h3, h2]
      exact trmR_stop hc2
theorem pln_trm (l : List UInt8) : pln (trm l) = pln l := by
  obtain ⟨p, q, h, hp, hq⟩ := trm_split l
  have e : ∀ p : List UInt8, p.all blk = true → p.all plnC = true := by
    intro p hp
    rw [List.all_eq_true] at hp ⊢
    exact fun x hx => blk_plain (hp x hx)
  unfold pln
  conv => rhs; rw [h]
  rw [List.all_append, List.all_append, e p hp, e q hq, Bool.true_and, Bool.and_true]
/-- A place at which b stands in l between blanks. -/
def plc (l b : List UInt8) (j : Nat) : Bool := decide ((l.drop j).take b.length = b) && ((l.take j).all blk && (l.drop (j + b.length)).all blk)
theorem plc_some (l : List UInt8) (n m : Nat) (hn : l.length = n) (hm : (trm l).length = m) : (List.range (n - m + 1)).any (plc l (trm l)) = true := by
  obtain ⟨p, q, h, hp, hq⟩ := trm_split l
  obtain ⟨b, hb⟩ : ∃ b, trm l = b := ⟨_, rfl⟩
  rw [hb] at h hm ⊢
  rw [List.any_eq_true]
  have hl := congrArg List.length h
  simp only [List.length_append] at hl
  refine ⟨p.length, List.mem_range.2 (by omega), ?_⟩
  unfold plc
  have h1 : l.drop p.length = b ++ q := by rw [h, List.append_assoc, List.drop_left]
  have h2 : l.take p.length = p := by rw [h, List.append_assoc, List.take_left]
  have h3 : l.drop (p.length + b.length) = q := by rw [← List.drop_drop, h1, List.drop_left]
  rw [h1, h2, h3, List.take_left, hp, hq]
  simp
end Go.Proofs.YtfonkblbgadhmaaGreatDoor
namespace Go.Proofs.YtfonkblbgadhmaaGreatDoor
open Go.RowKit

theorem cutG_app (c : UInt8) (r : List UInt8) : ∀ (l cur : List UInt8), cutG c cur (l ++ c :: r) = cutG c cur l ++ cutG c [] r := by
  intro l
  induction l with
  | nil => intro cur; simp [cutG]
  | cons b l ih =>
    intro cur
    simp only [List.cons_append, cutG]
    by_cases hb : b = c
    · rw [if_pos hb, if_pos hb, ih]
      rfl
    · rw [if_neg hb, if_neg hb, ih]
theorem lstG_app (p q : List (List UInt8)) : lstG (p ++ q) = lstG p ++ lstG q := by
  unfold lstG
  simp
theorem lstP_app (a b : List UInt8) : lstP (a ++ 44 :: b) = lstP a ++ lstP b := by
  show lstG (cutG 44 [] (a ++ 44 :: b)) = lstG (cutG 44 [] a) ++ lstG (cutG 44 [] b)
  rw [cutG_app, lstG_app]
theorem cutG_none (c : UInt8) : ∀ (l cur : List UInt8), l.contains c = false → cutG c cur l = [cur ++ l] := by
  intro l
  induction l with
  | nil => intro cur _; simp [cutG]
  | cons b l ih =>
    intro cur h
    rw [List.contains_cons, Bool.or_eq_false_iff] at h
    have hb : ¬ b = c := by
      intro e
      rw [e] at h
      simp at h
    simp only [cutG]
    rw [if_neg hb, ih _ h.2]
    simp
theorem lstP_one {l : List UInt8} (h : l.contains 44 = false) : lstP l = if (trm l).isEmpty then [] else [lowL (trm l)] := by
  show lstG (cutG 44 [] l) = _
  rw [cutG_none 44 l [] h, List.nil_append]
  unfold lstG
  simp only [List.map_cons, List.map_nil, List.filter_cons, List.filter_nil]
  cases h : (trm l).isEmpty <;> simp
theorem tokC_mark' : ∀ n : Fin 256, tokC (UInt8.ofNat n.val) = true → UInt8.ofNat n.val ≠ 44 ∧ blk (UInt8.ofNat n.val) = false := by decide +kernel
theorem tokC_mark {c : UInt8} (h : tokC c = true) : c ≠ 44 ∧ blk c = false := by
  have := tokC_mark' ⟨c.toNat, c.toNat_lt⟩
  simp only [u8_ofNat] at this
  exact this h
theorem tok_parts {x : List UInt8} (h : tok x = true) : x ≠ [] ∧ x.contains 44 = false ∧ ∀ c ∈ x, blk c = false := by
  unfold tok at h
  rw [Bool.and_eq_true, List.all_eq_true] at h
  refine ⟨?_, ?_, fun c hc => (tokC_mark (h.2 c hc)).2⟩
  · rintro rfl
    simp at h
  · cases hc : x.contains 44 with
    | false => rfl
    | true =>
      have hm : (44 : UInt8) ∈ x := by simpa using hc
      exact absurd rfl (tokC_mark (h.2 44 hm)).1
theorem dw_app {p q : List UInt8} (hp : p.all blk = true) : (p ++ q).dropWhile blk = q.dropWhile blk := by
  induction p with
  | nil => rfl
  | cons c p ih =>
    rw [List.all_cons, Bool.and_eq_true] at hp
    rw [List.cons_append, List.dropWhile_cons_of_pos hp.1]
    exact ih hp.2
theorem dw_stay {x q : List UInt8} (hx : x ≠ []) (h : ∀ c ∈ x, blk c = false) : (x ++ q).dropWhile blk = x ++ q := by
  cases x with
  | nil => exact absurd rfl hx
  | cons c x =>
    have := h c (List.mem_cons_self ..)
    rw [List.cons_append, List.dropWhile_cons_of_neg (by simp [this])]
theorem trm_word {p x q : List UInt8} (hp : p.all blk = true) (hq : q.all blk = true) (hx : x ≠ []) (h : ∀ c ∈ x, blk c = false) : trm (p ++ (x ++ q)) = x := by
  unfold trm
  rw [dw_app hp, dw_stay hx h, List.reverse_append, dw_app (by rw [List.all_reverse]; exact hq)]
  have h2 : x.reverse.dropWhile blk = x.reverse := by
    have := dw_stay (x := x.reverse) (q := []) (by simpa using hx) (fun c hc => h c (List.mem_reverse.1 hc))
    simpa using this
  rw [h2, List.reverse_reverse]
theorem blk_no {p : List UInt8} (h : p.all blk = true) : p.contains 44 = false := by
  cases hc : p.contains 44 with
  | false => rfl
  | true =>
    have hm : (44 : UInt8) ∈ p := by simpa using hc
    have := List.all_eq_true.1 h 44 hm
    exact absurd this (by decide)
theorem lstP_word {p x q : List UInt8} (hp : p.all blk = true) (hq : q.all blk = true) (ht : tok x = true) (hl : lowL x = x) : lstP (p ++ (x ++ q)) = [x] := by
  obtain ⟨h1, h2, h3⟩ := tok_parts ht
  have hc : (p ++ (x ++ q)).contains 44 = false := by
    cases hcc : (p ++ (x ++ q)).contains 44 with
    | false => rfl
    | true =>
      have hm : (44 : UInt8) ∈ p ++ (x ++ q) := by simpa using hcc
      rcases List.mem_append.1 hm with hm | hm
      · have := blk_no hp
        simp [hm] at this
      · rcases List.mem_append.1 hm with hm | hm
        · simp [hm] at h2
        · have := blk_no hq
          simp [hm] at this
  rw [lstP_one hc, trm_word hp hq h1 h3, hl]
  cases x with
  | nil => exact absurd rfl h1
  | cons c x => rfl
/-- What AsciiLists puts together, behind ' ,'. -/
def joi (xs : List (List UInt8)) : List UInt8 := (xs.map fun x => 9 :: (x ++ [32, 44, 32])).flatten
theorem joi_snoc (xs : List (List UInt8)) (x : List UInt8) : joi (xs ++ [x]) = joi xs ++ (9 :: (x ++ [32, 44, 32])) := by simp [joi]
theorem lstP_joi (xs : List (List UInt8)) : ∀ p : List UInt8, p.all blk = true → (∀ x ∈ xs, tok x = true ∧ lowL x = x) → lstP (p ++ joi xs) = xs := by
  induction xs with
  | nil =>
    intro p hp _
    have h : trm p = [] := by
      have h0 := dw_app (q := []) hp
      unfold trm
      rw [List.append_nil] at h0
      rw [h0]
      rfl
    show lstP (p ++ []) = []
    rw [List.append_nil, lstP_one (blk_no hp), h]
    rfl
  | cons x xs ih =>
    intro p hp hx
    have hj : p ++ joi (x :: xs) = ((p ++ [9]) ++ (x ++ [32])) ++ 44 :: ([32] ++ joi xs) := by simp [joi]
    obtain ⟨h1, h2⟩ := hx x (List.mem_cons_self ..)
    rw [hj, lstP_app, ih [32] rfl (fun y hy => hx y (List.mem_cons_of_mem _ hy)), lstP_word (by rw [List.all_append, hp]; rfl) rfl h1 h2]
    rfl
theorem lstP_all (xs : List (List UInt8)) (hx : ∀ x ∈ xs, tok x = true ∧ lowL x = x) : lstP ([32, 44] ++ joi xs) = xs := by
  have h : [32, 44] ++ joi xs = [32] ++ 44 :: ([] ++ joi xs) := rfl
  rw [h, lstP_app, lstP_joi xs [] rfl hx]
  rfl
theorem lst_ok {l : List UInt8} (h : lstE l = 0) : (lstP l).length ≤ 16 ∧ (∀ x ∈ lstP l, tok x = true ∧ lowL x = x) ∧ lstV l = lstP l := by
  have hv : lstV l = lstP l := by unfold lstV; rw [if_pos h]
  unfold lstE at h
  by_cases h16 : 16 < (lstP l).length
  · rw [if_pos h16] at h
    cases h
  · rw [if_neg h16] at h
    cases ha : (lstP l).all tok with
    | false => rw [ha] at h; cases h
    | true =>
      refine ⟨by omega, fun x hx => ⟨List.all_eq_true.1 ha x hx, ?_⟩, hv⟩
      unfold lstP at hx
      obtain ⟨y, _, rfl⟩ := List.mem_map.1 hx
      exact lowL_again y
theorem lst_of {l : List UInt8} {xs : List (List UInt8)} (h : lstP l = xs) (hn : xs.length ≤ 16) (hx : ∀ x ∈ xs, tok x = true) : lstE l = 0 ∧ lstV l = xs := by
  have he : lstE l = 0 := by
    unfold lstE
    rw [h, if_neg (by omega), List.all_eq_true.2 hx]
    rfl
  exact ⟨he, by unfold lstV; rw [if_pos he, h]⟩
theorem lst_many {l : List UInt8} (h : 16 < (lstP l).length) : lstE l = 4 ∧ lstV l = [] := by
  have he : lstE l = 4 := by unfold lstE; rw [if_pos h]
  exact ⟨he, by unfold lstV; rw [if_neg (by rw [he]; decide)]⟩
theorem lst_bad {l : List UInt8} (h : lstE l ≠ 0) : lstV l = [] := by unfold lstV; rw [if_neg h]
theorem joi_len (xs : List (List UInt8)) (b : Nat) (h : ∀ x ∈ xs, x.length ≤ b) : (joi xs).length ≤ xs.length * (b + 4) := by
  induction xs with
  | nil => simp [joi]
  | cons x xs ih =>
    have h1 := h x (List.mem_cons_self ..)
    have h2 := ih fun y hy => h y (List.mem_cons_of_mem _ hy)
    have h3 : (joi (x :: xs)).length = x.length + 4 + (joi xs).length := by
      simp [joi]
      omega
    rw [h3, List.length_cons, Nat.add_mul]
    omega
end Go.Proofs.YtfonkblbgadhmaaGreatDoor
namespace Go.Proofs.YtfonkblbgadhmaaGreatDoor
open Go.RowKit Go.Sort

/-- The table that Itoa reads lies in the world. -/
def Tab (w : World) : Prop := Lib.TabIs Tryz.prog w "internal/strconv.uint64pow10" .u64 Lib.pow10Tab
theorem itoa_nat (n : Nat) : Lib.itoa (n : Int) = Lib.decDigits n := by
  unfold Lib.itoa
  rw [if_neg (by omega)]
  simp

theorem below_grow (w : World) (k : Nat) (os : Array Obj) : Below w.heap.size w (grow (w.drewN k) os) := by
  refine ⟨rfl, rfl, rfl, ?_, fun i hi => ?_⟩
  · show w.heap.size ≤ (w.heap ++ os).size
    simp
  · show (w.heap ++ os)[i]? = w.heap[i]?
    rw [Array.getElem?_append_left hi]
end Go.Proofs.YtfonkblbgadhmaaGreatDoor
namespace Go.Proofs.YtfonkblbgadhmaaGreatDoor
open Go.RowKit

/-- internal/bytealg.MaxLen holds a number. -/
def ML (w : World) : Prop := 0 < w.heap.size ∧ ∃ m : Int, w.cell? ⟨0, 0, none⟩ = some (.int .i64 m)
theorem ML.ret {w w' : World} (h : ML w) (hb : Below w.heap.size w w') : ML w' := by
  obtain ⟨h1, m, h2⟩ := h
  exact ⟨Nat.lt_of_lt_of_le h1 hb.size, m, ((bcell hb).1 _ _ h1).trans h2⟩
theorem split_cut (c : UInt8) : ∀ (n : Nat) (s : ByteArray), s.size ≤ n → (Lib.splitB ⟨#[c]⟩ 0 (Lib.countB s ⟨#[c]⟩) s).map (·.data.toList) = cutG c [] s.data.toList := by
  intro n
  induction n with
  | zero =>
    intro s hs
    have hl : s.data.toList = [] := List.eq_nil_of_length_eq_zero (by rw [size_toList]; omega)
    have hi : Lib.indexB s ⟨#[c]⟩ = -1 := by
      show Lib.index s.data.toList [c] = -1
      rw [hl]
      rfl
    rw [Lib.countB_miss s ⟨#[c]⟩ hi, Lib.splitB_zero, hl]
    simp [hl, cutG]
  | succ n ih =>
    intro s hs
    rw [cutG_step, List.nil_append]
    rcases ib_cases c s.data.toList with ⟨h1, h2, h3, h4⟩ | ⟨i, h1, h0, h2, h3, h4⟩
    · have hi : Lib.indexB s ⟨#[c]⟩ = -1 := (Lib.index_one s.data.toList c).trans h1
      rw [Lib.countB_miss s ⟨#[c]⟩ hi, Lib.splitB_zero, h2, h4]
      simp
    · have hi : Lib.indexB s ⟨#[c]⟩ = i := (Lib.index_one s.data.toList c).trans h1
      have hsz : (⟨#[c]⟩ : ByteArray).size = 1 := rfl
      rw [size_toList] at h0
      have hk : Lib.countB s ⟨#[c]⟩ = Lib.countB (s.extract (i + 1) s.size) ⟨#[c]⟩ + 1 := by
        have := Lib.countB_hit s ⟨#[c]⟩ i (by rw [hsz]; exact Nat.le_refl _) hi
        rw [hsz] at this
        omega
      rw [hk, Lib.splitB_hit ⟨#[c]⟩ 0 _ s i hi, hsz, List.map_cons]
      rw [ih (s.extract (i + 1) s.size) (by rw [← size_toList, ext_tail, List.length_drop, size_toList]; omega)]
      rw [ext_tail, h2, h3, h4, ext_data]
      rfl
end Go.Proofs.YtfonkblbgadhmaaGreatDoor
namespace Go.Proofs.YtfonkblbgadhmaaGreatDoor
open Go.RowKit

theorem ML.of {w : World} (h : ∃ m : Int, w.cell? ⟨0, 0, none⟩ = some (.int .i64 m)) : ML w := by
  obtain ⟨m, h⟩ := h
  refine ⟨?_, m, h⟩
  rcases Nat.lt_or_ge 0 w.heap.size with h' | h'
  · exact h'
  · simp [World.cell?, Array.getElem?_eq_none h'] at h
theorem ML.shaped {W : World} (h : W.ShapedOpen Tryz.prog) : ML W :=
  ML.of (cell_of_shapedOpen_int (P := Tryz.prog) (g := 0) (t := 3) (zero := #[.int .i64 0]) h (of_decide_eq_true (by kernel_rfl)) (by kernel_rfl) rfl (by kernel_rfl) (by kernel_rfl) Tryz.underlying3)
end Go.Proofs.YtfonkblbgadhmaaGreatDoor
namespace Go.Proofs.YtfonkblbgadhmaaGreatDoor
open Go.RowKit

/-- The contract of such an iterator. -/
def SeqG {α : Type} (P : Program) (g : Nat) (lb : Array Value) (encs : α → Array Value) (B : Nat) (S Sp : List α → Prop) (N : Nat) (G : World → Prop) (Yp : α → Prop) (w : World) : Prop :=
  ∀ (l : Nat) (J Jx : List α → World → Prop) (W : World), Below w.heap.size w W → AbV B J → AbV B Jx → (∀ pre W, J pre W → G W) →
    (∀ pre x W1, J pre W1 → pre.length < N → Yp x → YieldAt Fence.wide 1 P l (encs x) W1 fun e W' =>
      (e = .returned (.bool true) ∧ J (pre ++ [x]) W' ∧ KeepV B W1 W') ∨ (e = .returned (.bool false) ∧ Jx (pre ++ [x]) W')) →
    J [] W →
    CallsIn Fence.wide 2 P g (#[.func (.yield l) #[] #[]] ++ lb) W fun e W' => (∃ v, e = .returned v) ∧ ((∃ xs, S xs ∧ J xs W') ∨ (∃ pre, Sp pre ∧ Jx pre W'))
set_option maxHeartbeats 1000000 in
/-- THE LAW. -/
theorem range_lawG {α : Type} {P : Program} {g : Operand} {ps : Array Tmp} {assign body : Code} {Q : Exit → Act → World → Prop} {a : Act} {w : World} {gf : Nat} {lb : Array Value}
    (hg : a.eval g = .func (.func gf) #[] lb) (eg : ∀ args w, (callFunc gf args).run P w = .ok (.enter gf args) w) {B : Nat} (hB : B < w.heap.size)
    {encs : α → Array Value} {S Sp : List α → Prop} {N : Nat} {G : World → Prop} {Yp : α → Prop} (hseq : SeqG P gf lb encs B S Sp N G Yp w) (hps : ∀ x, (encs x).size = ps.size)
    (I : List α → World → Prop) (Ix : Code → List α → World → Prop) (hI : OwnV B w.heap.size I) (hIx : ∀ c, OwnV B w.heap.size (Ix c)) (hG : ∀ pre W, I pre W → G W) (h0 : I [] w) (a₁ : α → Act)
    (hassign : ∀ (l : Nat) (x : α) (W : World) (K : Act → World → Prop), K (a₁ x) W →
      assign.wpIn (Fence.wide.inRound l) 1 P (Exit.then K (fun _ _ _ => False)) { tmps := (ps.zip (encs x)).foldl (fun t (p, v) => t.setIfInBounds p v) a.tmps, defers := [] } W)
    (hbody : ∀ (l : Nat) (pre : List α) (x : α) (W : World), I pre W → pre.length < N → Yp x → body.wpIn (Fence.wide.inRound l) 1 P (postV B I Ix (pre ++ [x]) W) (a₁ x) W)
    (hdone : ∀ (D : Nat) (xs : List α) (W : World), w.heap.size ≤ D → S xs → I xs W → W.heap[D]? = some (.deferred (some [])) → Q .normal { a with defers := { target := .collected D, args := #[] } :: a.defers } W)
    (hstop : ∀ (D : Nat) (c : Code) (pre : List α) (W : World), w.heap.size ≤ D → Sp pre → Ix c pre W → W.heap[D]? = some (.deferred (some [])) → c.wpIn Fence.wide 3 P Q { a with defers := { target := .collected D, args := #[] } :: a.defers } W) :
    (Code.rangeFunc g ps assign body).wpIn Fence.wide 3 P Q a w := by
  refine wpIn_rangeFunc fun fn _ => ?_
  let lp : LoopState → Option Code → Obj := fun st pe => .loop { state := st, pending := pe, fn, tmps := a.tmps, params := ps, assign, body, defers := w.heap.size }
  obtain ⟨W1, hW1⟩ : ∃ W1, (w.alloc (.deferred (some []))).alloc (lp .ready none) = W1 := ⟨_, rfl⟩
  have hbel : Below w.heap.size w W1 := by
    rw [← hW1]
    exact ((Below.refl _ w).alloc (Nat.le_refl _) _).alloc (by simp) _
  have hrec : W1.heap[w.heap.size + 1]? = some (lp .ready none) := by
    rw [← hW1]
    have := World.alloc_heap_new (w.alloc (.deferred (some []))) (lp .ready none)
    rwa [World.size_alloc] at this
  have hdef : W1.heap[w.heap.size]? = some (.deferred (some [])) := by
    rw [← hW1]
    exact (Below.heap_alloc _ _ _ (by simp)).trans (World.alloc_heap_new w _)
  refine ⟨w.heap.size + 1, [{ target := .collected w.heap.size, args := #[] }], W1, { target := .fn (.func gf) lb, args := #[.func (.yield (w.heap.size + 1)) #[] #[]] }, W1, gf, #[.func (.yield (w.heap.size + 1)) #[] #[]] ++ lb, W1, ?_, ?_, ?_, ?_, fun _ => by omega, ?_⟩
  · rw [← hW1]
    exact run_enterLoop_outer _ _ _ _ _
  · simp only [resolve, hg]
    simp [go_sem]
  · intro f' _
    trivial
  · simp [invoke, go_sem, eg]
  · refine (hseq (w.heap.size + 1) (fun pre W => I pre W ∧ W.heap[w.heap.size + 1]? = some (lp .ready none) ∧ W.heap[w.heap.size]? = some (.deferred (some [])))
      (fun pre W => ∃ c, Ix c pre W ∧ W.heap[w.heap.size + 1]? = some (lp .done (some c)) ∧ W.heap[w.heap.size]? = some (.deferred (some []))) W1 hbel ?abJ ?abX (fun pre W h => hG pre W h.1) ?round ⟨?start, hrec, hdef⟩).mono ?behind
    case start =>
      rw [← hW1]
      exact ownV_alloc hI _ (ownV_alloc hI _ h0)
    case abJ =>
      rintro s A C row ⟨i, r, d⟩ hg' hr
      refine ⟨hI s A C row i hg' (fun r e => .inl (hr r e)), ?_, ?_⟩
      · exact (hg'.block _ (lt_of_get r) (fun e => by have := hr _ e.symm; omega)).trans r
      · exact (hg'.block _ (lt_of_get d) (fun e => by have := hr _ e.symm; omega)).trans d
    case abX =>
      rintro s A C row ⟨c, i, r, d⟩ hg' hr
      refine ⟨c, hIx c s A C row i hg' (fun r e => .inl (hr r e)), ?_, ?_⟩
      · exact (hg'.block _ (lt_of_get r) (fun e => by have := hr _ e.symm; omega)).trans r
      · exact (hg'.block _ (lt_of_get d) (fun e => by have := hr _ e.symm; omega)).trans d
    case behind =>
      rintro e W2 ⟨⟨v, rfl⟩, h⟩
      rcases h with ⟨xs, hS, i, r, d⟩ | ⟨pre, hSp, c, i, r, d⟩
      · exact ⟨none, _, run_endLoop r (by simp), hdone _ xs _ (Nat.le_refl _) hS (ownV_put hI _ i (by omega) r rfl) ((World.putObj_heap_other (by omega)).trans d)⟩
      · exact ⟨some c, _, run_endLoop r (by simp), hstop _ c pre _ (Nat.le_refl _) hSp (ownV_put (hIx c) _ i (by omega) r rfl) ((World.putObj_heap_other (by omega)).trans d)⟩
    case round =>
      rintro pre x W ⟨i, r, d⟩ hlen hyp
      refine ⟨fn, _, assign, body, run_yield (args := encs x) r (hps x), roundIn_of_wpIn trivial (hassign _ x W _ ⟨_, run_beginRound r rfl, ?_⟩)⟩
      have hl1 := lt_of_get r
      refine wpIn_mono (hbody _ pre x _ (ownV_put hI _ i (by omega) r rfl) hlen hyp) ?_
      have busy : (W.putObj (w.heap.size + 1) (lp .busy none)).heap[w.heap.size + 1]? = some (lp .busy none) := World.putObj_heap_same hl1
      have dbusy : (W.putObj (w.heap.size + 1) (lp .busy none)).heap[w.heap.size]? = some (.deferred (some [])) := (World.putObj_heap_other (by omega)).trans d
      have leave : ∀ (jump : Option Code) (W3 : World), KeepsOthers (W.putObj (w.heap.size + 1) (lp .busy none)) W3 →
          (Instr.endRound (w.heap.size + 1) jump).run P W3 = .ok (.bool jump.isNone) (W3.putObj (w.heap.size + 1) (lp (if jump.isNone then .ready else .done) jump)) ∧ W3.heap[w.heap.size + 1]? = some (lp .busy none) ∧
          (W3.putObj (w.heap.size + 1) (lp (if jump.isNone then .ready else .done) jump)).heap[w.heap.size + 1]? = some (lp (if jump.isNone then .ready else .done) jump) ∧
          (W3.putObj (w.heap.size + 1) (lp (if jump.isNone then .ready else .done) jump)).heap[w.heap.size]? = some (.deferred (some [])) := by
        intro jump W3 hk
        have b3 := hk.same _ _ busy rfl
        exact ⟨run_endRound jump b3, b3, World.putObj_heap_same (lt_of_get b3), (World.putObj_heap_other (by omega)).trans (hk.same _ _ dbusy rfl)⟩
      rintro e a3 W3 hp
      cases e with
      | panic ch => exact hp.elim
      | outgrown => exact hp.elim
      | normal =>
        obtain ⟨hk, hv, hi⟩ := hp
        obtain ⟨q1, q2, q3, q4⟩ := leave none W3 hk
        exact ⟨_, _, q1, .inl ⟨rfl, ⟨ownV_put hI _ hi (by omega) q2 rfl, q3, q4⟩, keepV_trans (keepV_trans (keepV_put W _ (by omega)) hv) (keepV_put W3 _ (by omega))⟩⟩
      | ret =>
        obtain ⟨hk, hi⟩ := hp
        obtain ⟨q1, q2, q3, q4⟩ := leave (some .ret) W3 hk
        exact ⟨_, _, q1, .inr ⟨rfl, .ret, ownV_put (hIx _) _ hi (by omega) q2 rfl, q3, q4⟩⟩
      | exit id =>
        obtain ⟨hk, hi⟩ := hp
        obtain ⟨q1, q2, q3, q4⟩ := leave (some (.exit id)) W3 hk
        exact ⟨_, _, q1, .inr ⟨rfl, .exit id, ownV_put (hIx _) _ hi (by omega) q2 rfl, q3, q4⟩⟩
      | goto t =>
        obtain ⟨hk, hi⟩ := hp
        obtain ⟨q1, q2, q3, q4⟩ := leave (some (.goto t)) W3 hk
        exact ⟨_, _, q1, .inr ⟨rfl, .goto t, ownV_put (hIx _) _ hi (by omega) q2 rfl, q3, q4⟩⟩
end Go.Proofs.YtfonkblbgadhmaaGreatDoor
