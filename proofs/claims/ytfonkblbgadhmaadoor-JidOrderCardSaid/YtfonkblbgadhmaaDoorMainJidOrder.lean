/-
  JidOrder: of two unlike addresses just one is less, and less is so on and on: any three.
  Conditions: none but the statement's own (its row lists package-level tables, tied to the program's text by the given card). PRINTED BY PROGRAM (gen_card.py).
-/
import Derived.Test.YtfonkblbgadhmaaDoorJdLe
import Derived.Test.YtfonkblbgadhmaaDoorGc
import Derived.Test.YtfonkblbgadhmaaDoorGa
import Derived.Test.YtfonkblbgadhmaaDoorCards
import Derived.Test.YtfonkblbgadhmaaDoorTie
import Derived.WalkKit
import Derived.ProofKit
import Derived.OpenShut
import Derived.Lib.SmallJoins
import Derived.Deep.DeepHandedRow
import Derived.Lib.LaidTab
import Derived.Lib.LaidU8
import Derived.SizedLaws
import Derived.Stop.LaidErr
namespace Go.Proofs.YtfonkblbgadhmaaDoor.jidOrder
open Go.ChangeShapes Go.WideShapes Go.ChangeAt Go.RowKit Go.Joins

theorem own : ownKnob Tryd.prog.godebug = none := by kernel_rfl
theorem laidOut : laidOutB Tryd.prog = true := by kernel_rfl

set_option maxRecDepth 100000 in
/-- WHAT THE WALK GIVES, FOR EVERY ARGUMENT AND EVERY WORLD THAT HOLDS THE TABLES. -/
theorem contract (H : Type) (enc : TypeId × Value → H) (W : World) (base : Nat) (args : Array Value) (ds gs : List (DataW H)) (before : List MemPlace)
    (hval : ∀ (j : Nat) t v, Tryd.f5.params[j]? = some t → args[j]? = some v → Value.okWide Tryd.prog W .any base t v)
    (hW : DataW.Whole enc Tryd.prog Tryd.f5.params.toList Rows.jidOrderSpec.vars false W args.toList ds gs before) (_ : laidMetH Tryd.prog Rows.jidOrderRow.laid W) (hsh : W.ShapedOpen Tryd.prog) (hwt : (DataW.weightsEach Tryd.prog (Tryd.f5.params.toList ++ (OpenSpec.ofChange Rows.jidOrderSpec).bare.plain.varTypes Tryd.prog) (ds ++ gs)).all (· ≤ reachBytes) = true) :
    Calls Tryd.prog 5 args W fun e W' => ∃ v, e = .returned v ∧ Rows.jidOrderSpec.post enc Tryd.prog Tryd.f5 false true false false W args v W' := by
  have hML : ML W := ML.shaped hsh
  have hW' := hW
  obtain ⟨p, q, hA0, hV, rfl, hfz, hnd⟩ := hW
  have hA : DataW.TrodAll enc Tryd.prog W 0 (fun _ => true) true Tryd.f5.params.toList args.toList ds p := hA0
  rw [Tryd.params5] at hA hval
  obtain ⟨v0, vs0, d0, ds0, p0, q0, hargs, rfl, rfl, h0, r0⟩ := trodAll_cons hA
  obtain ⟨v1, vs1, d1, ds1, p1, q1, rfl, rfl, rfl, h1, r1⟩ := trodAll_cons r0
  obtain ⟨v2, vs2, d2, ds2, p2, q2, rfl, rfl, rfl, h2, r2⟩ := trodAll_cons r1
  obtain ⟨rfl, rfl, rfl⟩ := trodAll_nil r2
  obtain rfl : args = #[v0, v1, v2] := by cases args; simp_all
  obtain ⟨c00, c01, c02, y00, y01, y02, nf0, rfl, rfl, rfl, hy00, hy01, hy02⟩ := open_agg3 Tryd.underlying23 (by kernel_rfl) (by kernel_rfl : Tryd.prog.cellsOf 23 = 3) (hval 0 23 v0 rfl rfl) h0
  obtain ⟨a, ea, rfl, _⟩ := DataW.trod_string Tryd.underlying9 hy00
  obtain rfl : c00 = .string a := by simpa using ea
  obtain ⟨b, eb, rfl, _⟩ := DataW.trod_string Tryd.underlying9 hy01
  obtain rfl : c01 = .string b := by simpa using eb
  obtain ⟨c, ec, rfl, _⟩ := DataW.trod_string Tryd.underlying9 hy02
  obtain rfl : c02 = .string c := by simpa using ec
  have hwn0 := fun n hn => List.all_eq_true.1 hwt n (DataW.weights_mem_each (j := 0) (t := 23) rfl rfl n hn)
  have za : a.size ≤ 140737488351232 := by
    have h := hwn0 a.data.toList.length (by simp [DataW.weights, DataW.weightsEach, Tryd.underlying23])
    rw [size_toList] at h
    exact of_decide_eq_true h
  have zb : b.size ≤ 140737488351232 := by
    have h := hwn0 b.data.toList.length (by simp [DataW.weights, DataW.weightsEach, Tryd.underlying23])
    rw [size_toList] at h
    exact of_decide_eq_true h
  have zc : c.size ≤ 140737488351232 := by
    have h := hwn0 c.data.toList.length (by simp [DataW.weights, DataW.weightsEach, Tryd.underlying23])
    rw [size_toList] at h
    exact of_decide_eq_true h
  obtain ⟨c10, c11, c12, y10, y11, y12, nf1, rfl, rfl, rfl, hy10, hy11, hy12⟩ := open_agg3 Tryd.underlying23 (by kernel_rfl) (by kernel_rfl : Tryd.prog.cellsOf 23 = 3) (hval 1 23 v1 rfl rfl) h1
  obtain ⟨x, ex, rfl, _⟩ := DataW.trod_string Tryd.underlying9 hy10
  obtain rfl : c10 = .string x := by simpa using ex
  obtain ⟨y, ey, rfl, _⟩ := DataW.trod_string Tryd.underlying9 hy11
  obtain rfl : c11 = .string y := by simpa using ey
  obtain ⟨z, ez, rfl, _⟩ := DataW.trod_string Tryd.underlying9 hy12
  obtain rfl : c12 = .string z := by simpa using ez
  have hwn1 := fun n hn => List.all_eq_true.1 hwt n (DataW.weights_mem_each (j := 1) (t := 23) rfl rfl n hn)
  have zx : x.size ≤ 140737488351232 := by
    have h := hwn1 x.data.toList.length (by simp [DataW.weights, DataW.weightsEach, Tryd.underlying23])
    rw [size_toList] at h
    exact of_decide_eq_true h
  have zy : y.size ≤ 140737488351232 := by
    have h := hwn1 y.data.toList.length (by simp [DataW.weights, DataW.weightsEach, Tryd.underlying23])
    rw [size_toList] at h
    exact of_decide_eq_true h
  have zz : z.size ≤ 140737488351232 := by
    have h := hwn1 z.data.toList.length (by simp [DataW.weights, DataW.weightsEach, Tryd.underlying23])
    rw [size_toList] at h
    exact of_decide_eq_true h
  obtain ⟨c20, c21, c22, y20, y21, y22, nf2, rfl, rfl, rfl, hy20, hy21, hy22⟩ := open_agg3 Tryd.underlying23 (by kernel_rfl) (by kernel_rfl : Tryd.prog.cellsOf 23 = 3) (hval 2 23 v2 rfl rfl) h2
  obtain ⟨u, eu, rfl, _⟩ := DataW.trod_string Tryd.underlying9 hy20
  obtain rfl : c20 = .string u := by simpa using eu
  obtain ⟨v, ev, rfl, _⟩ := DataW.trod_string Tryd.underlying9 hy21
  obtain rfl : c21 = .string v := by simpa using ev
  obtain ⟨r, er, rfl, _⟩ := DataW.trod_string Tryd.underlying9 hy22
  obtain rfl : c22 = .string r := by simpa using er
  have hwn2 := fun n hn => List.all_eq_true.1 hwt n (DataW.weights_mem_each (j := 2) (t := 23) rfl rfl n hn)
  have zu : u.size ≤ 140737488351232 := by
    have h := hwn2 u.data.toList.length (by simp [DataW.weights, DataW.weightsEach, Tryd.underlying23])
    rw [size_toList] at h
    exact of_decide_eq_true h
  have zv : v.size ≤ 140737488351232 := by
    have h := hwn2 v.data.toList.length (by simp [DataW.weights, DataW.weightsEach, Tryd.underlying23])
    rw [size_toList] at h
    exact of_decide_eq_true h
  have zr : r.size ≤ 140737488351232 := by
    have h := hwn2 r.data.toList.length (by simp [DataW.weights, DataW.weightsEach, Tryd.underlying23])
    rw [size_toList] at h
    exact of_decide_eq_true h
  refine (order19 a b c x y z u v r W za zb zc zx zy zz zu zv zr hML).mono fun e W' ⟨he, hb⟩ => ?_
  subst he
  exact ⟨_, rfl, post_law laidOut (by kernel_rfl) (T := 4) (by kernel_rfl) Tryd.underlying4 hW' rfl rfl hb⟩

/-- A WORLD FOR THE WITNESS: the settled one, each table holding what its initialiser lays. -/
def tabPut (h : Array Obj) (g : Nat) (cs : Array Value) : Array Obj := h.modify g fun
  | .cells _ t frozen => .cells cs t frozen
  | o => o
noncomputable def laidWorld (os : Os) : World :=
  { World.holding Tryd.prog os ⟨#[], #[], []⟩ with heap := (tabPut (tabPut (World.holding Tryd.prog os ⟨#[], #[], []⟩).heap 2 (#[.int .u8 128, .int .u8 191, .int .u8 160, .int .u8 191, .int .u8 128, .int .u8 159, .int .u8 144, .int .u8 191, .int .u8 128, .int .u8 143, .int .u8 0, .int .u8 0, .int .u8 0, .int .u8 0, .int .u8 0, .int .u8 0, .int .u8 0, .int .u8 0, .int .u8 0, .int .u8 0, .int .u8 0, .int .u8 0, .int .u8 0, .int .u8 0, .int .u8 0, .int .u8 0, .int .u8 0, .int .u8 0, .int .u8 0, .int .u8 0, .int .u8 0, .int .u8 0])) 1 ((Lib.firstTab.map fun z => Value.int .u8 z).toArray)) }
theorem laid_met (os : Os) : laidMet Tryd.prog Rows.jidOrderRow.laid ((laidWorld os).forCall (fun _ _ => 0) ⟨#[], #[.agg #[.string ⟨#[]⟩, .string ⟨#[]⟩, .string ⟨#[]⟩], .agg #[.string ⟨#[]⟩, .string ⟨#[]⟩, .string ⟨#[]⟩], .agg #[.string ⟨#[]⟩, .string ⟨#[]⟩, .string ⟨#[]⟩]], []⟩).memory :=
  laidMet_of_run' 8 (by kernel_rfl) (by kernel_rfl)
theorem reads (os : Os) {H : Type} (enc : TypeId × Value → H) : ∃ places, DataW.whole enc Tryd.prog ((laidWorld os).forCall (fun _ _ => 0) ⟨#[], #[.agg #[.string ⟨#[]⟩, .string ⟨#[]⟩, .string ⟨#[]⟩], .agg #[.string ⟨#[]⟩, .string ⟨#[]⟩, .string ⟨#[]⟩], .agg #[.string ⟨#[]⟩, .string ⟨#[]⟩, .string ⟨#[]⟩]], []⟩).memory Tryd.f5.params.toList Rows.jidOrderSpec.vars false (#[.agg #[.string ⟨#[]⟩, .string ⟨#[]⟩, .string ⟨#[]⟩], .agg #[.string ⟨#[]⟩, .string ⟨#[]⟩, .string ⟨#[]⟩], .agg #[.string ⟨#[]⟩, .string ⟨#[]⟩, .string ⟨#[]⟩]] : Array Value).toList 8 = some ([.agg [.lit (.string []), .lit (.string []), .lit (.string [])], .agg [.lit (.string []), .lit (.string []), .lit (.string [])], .agg [.lit (.string []), .lit (.string []), .lit (.string [])]], [], places) :=
  ⟨[], by kernel_rfl⟩

set_option maxRecDepth 100000 in
theorem lifted (os : Os) (started : os.Started) (H : Type) (enc : TypeId × Value → H) (F : Stop.Interp) :
    ReturnsInHanded {} Tryd.checked os 5 .any ((OpenSpec.ofChange Rows.jidOrderSpec).preRow enc Tryd.prog Tryd.f5 Rows.jidOrderRow.domain false Rows.jidOrderRow.laid) (((OpenSpec.ofChange Rows.jidOrderSpec).at F).post enc Tryd.prog Tryd.f5 false true false false) := by
  obtain ⟨places, hx⟩ := reads os enc
  refine returnsInHanded_of_row (C := Tryd.checked) (s := (OpenSpec.ofChange Rows.jidOrderSpec)) own started (by kernel_rfl) Tryd.func5
    (witness_row_at (enc := enc) (C := Tryd.checked) false (laidWorld os) #[.agg #[.string ⟨#[]⟩, .string ⟨#[]⟩, .string ⟨#[]⟩], .agg #[.string ⟨#[]⟩, .string ⟨#[]⟩, .string ⟨#[]⟩], .agg #[.string ⟨#[]⟩, .string ⟨#[]⟩, .string ⟨#[]⟩]] rfl (by kernel_rfl) (by kernel_rfl) (by kernel_rfl)
      (OpenSpec.preRow_of_cond 8 hx (by kernel_rfl) (fun k hk => by cases hk) (by kernel_rfl) (laid_met os))) ?_
  intro W base args ds gs before hval hW _ _ hwt hL hsh _
  exact contract H enc W base args ds gs before hval hW hL hsh hwt

theorem said : Rows.JidOrderSaid :=
  OpenClaim.holds_of_cond 5 Tryd.f5 rfl rfl rfl rfl rfl rfl rfl ⟨rfl, rfl, rfl, rfl, rfl⟩ rfl rfl rfl rfl rfl (by kernel_rfl) Tryd.func5 (by kernel_rfl)
    (of_decide_eq_true (by kernel_rfl)) (by unfold Func.isWrapper; rw [if_neg (of_decide_eq_false (by kernel_rfl))]; exact ⟨rfl, rfl⟩)
    (fun os started H enc _ F => by rw [OpenClaim.pre_eq_preRow]; exact lifted os started H enc F)

/-- No parameter wants a stand-in; the program's own looks are off: what the card asks. -/
theorem plain (f : FuncId) (fn : Func) (hf : Tryd.pinned.checked.prog.funcNamed "tidewaiter/tidewaiterlaw19.JidOrder" = some f) (hfn : Tryd.pinned.checked.prog.funcs[f]? = some fn) :
    false = Tryd.pinned.checked.prog.looks [] ∧ ∀ (j : Nat) t, fn.params[j]? = some t → Tryd.pinned.checked.prog.wantsStandIn t = false := by
  obtain rfl : f = 5 := Option.some.inj ((show Tryd.prog.funcNamed "tidewaiter/tidewaiterlaw19.JidOrder" = some 5 by kernel_rfl).symm.trans hf) |>.symm
  obtain rfl : fn = Tryd.f5 := (Option.some.inj (Tryd.func5.symm.trans hfn)).symm
  refine ⟨by kernel_rfl, fun j t ht => ?_⟩
  rw [Tryd.params5] at ht
  have hm := Array.mem_of_getElem? ht
  simp at hm
  subst hm
  exact (show Tryd.prog.wantsStandIn 23 = false by kernel_rfl)

/-- THE CARD. -/
theorem card : Rows.JidOrderCardSaid :=
  Claim7.holds_tied_plain_at .later [] _ _ _ _ said (fun _ h => by cases h) (by kernel_rfl) (fun _ h => by cases h) jidOrder_row_tie rfl ⟨rfl, rfl⟩ (by kernel_rfl) rfl plain (by kernel_rfl)

#print axioms card
end Go.Proofs.YtfonkblbgadhmaaDoor.jidOrder
