/-
  JidTells: texts' addresses, addresses' texts, of what kind they are, and their order, are what the document's reference answers: any bytes and two addresses.
  Conditions: none but the statement's own (its row lists package-level tables, tied to the program's text by the given card). PRINTED BY PROGRAM (gen_card.py).
-/
import Derived.Test.YtfonkblbgadhmaaDoorJdLf
import Derived.Test.YtfonkblbgadhmaaDoorGc
import Derived.Test.YtfonkblbgadhmaaDoorGa
import Derived.Test.YtfonkblbgadhmaaDoorCards
import Derived.Test.YtfonkblbgadhmaaDoorTie
import Derived.WalkKit
import Derived.ProofKit
import Derived.OpenShut
import Derived.Lib.SmallJoins
import Derived.Deep.DeepHandedRow
import Derived.Lib.LaidTab
import Derived.Lib.LaidU8
import Derived.SizedLaws
import Derived.Stop.LaidErr
namespace Go.Proofs.YtfonkblbgadhmaaDoor.jidTells
open Go.ChangeMaps (open_string shut_string)
open Go.ChangeShapes Go.WideShapes Go.ChangeAt Go.RowKit Go.Joins

theorem own : ownKnob Tryd.prog.godebug = none := by kernel_rfl
theorem laidOut : laidOutB Tryd.prog = true := by kernel_rfl

set_option maxRecDepth 100000 in
/-- WHAT THE WALK GIVES, FOR EVERY ARGUMENT AND EVERY WORLD THAT HOLDS THE TABLES. -/
theorem contract (H : Type) (enc : TypeId × Value → H) (W : World) (base : Nat) (args : Array Value) (ds gs : List (DataW H)) (before : List MemPlace)
    (hval : ∀ (j : Nat) t v, Tryd.f7.params[j]? = some t → args[j]? = some v → Value.okWide Tryd.prog W .any base t v)
    (hW : DataW.Whole enc Tryd.prog Tryd.f7.params.toList Rows.jidTellsSpec.vars false W args.toList ds gs before) (_ : laidMetH Tryd.prog Rows.jidTellsRow.laid W) (hsh : W.ShapedOpen Tryd.prog) (hwt : (DataW.weightsEach Tryd.prog (Tryd.f7.params.toList ++ (OpenSpec.ofChange Rows.jidTellsSpec).bare.plain.varTypes Tryd.prog) (ds ++ gs)).all (· ≤ reachBytes) = true) :
    Calls Tryd.prog 7 args W fun e W' => ∃ v, e = .returned v ∧ Rows.jidTellsSpec.post enc Tryd.prog Tryd.f7 false true false false W args v W' := by
  have hML : ML W := ML.shaped hsh
  have hW' := hW
  obtain ⟨p, q, hA0, hV, rfl, hfz, hnd⟩ := hW
  have hA : DataW.TrodAll enc Tryd.prog W 0 (fun _ => true) true Tryd.f7.params.toList args.toList ds p := hA0
  rw [Tryd.params7] at hA hval
  obtain ⟨v0, vs0, d0, ds0, p0, q0, hargs, rfl, rfl, h0, r0⟩ := trodAll_cons hA
  obtain ⟨v1, vs1, d1, ds1, p1, q1, rfl, rfl, rfl, h1, r1⟩ := trodAll_cons r0
  obtain ⟨v2, vs2, d2, ds2, p2, q2, rfl, rfl, rfl, h2, r2⟩ := trodAll_cons r1
  obtain ⟨rfl, rfl, rfl⟩ := trodAll_nil r2
  obtain rfl : args = #[v0, v1, v2] := by cases args; simp_all
  obtain ⟨s, rfl, rfl, rfl, ws⟩ := open_string Tryd.underlying9 (hval 0 9 v0 rfl rfl) h0
  unfold maxLen at ws
  obtain ⟨c10, c11, c12, y10, y11, y12, nf1, rfl, rfl, rfl, hy10, hy11, hy12⟩ := open_agg3 Tryd.underlying23 (by kernel_rfl) (by kernel_rfl : Tryd.prog.cellsOf 23 = 3) (hval 1 23 v1 rfl rfl) h1
  obtain ⟨a, ea, rfl, _⟩ := DataW.trod_string Tryd.underlying9 hy10
  obtain rfl : c10 = .string a := by simpa using ea
  obtain ⟨b, eb, rfl, _⟩ := DataW.trod_string Tryd.underlying9 hy11
  obtain rfl : c11 = .string b := by simpa using eb
  obtain ⟨c, ec, rfl, _⟩ := DataW.trod_string Tryd.underlying9 hy12
  obtain rfl : c12 = .string c := by simpa using ec
  have hwn1 := fun n hn => List.all_eq_true.1 hwt n (DataW.weights_mem_each (j := 1) (t := 23) rfl rfl n hn)
  have za : a.size ≤ 140737488351232 := by
    have h := hwn1 a.data.toList.length (by simp [DataW.weights, DataW.weightsEach, Tryd.underlying23])
    rw [size_toList] at h
    exact of_decide_eq_true h
  have zb : b.size ≤ 140737488351232 := by
    have h := hwn1 b.data.toList.length (by simp [DataW.weights, DataW.weightsEach, Tryd.underlying23])
    rw [size_toList] at h
    exact of_decide_eq_true h
  have zc : c.size ≤ 140737488351232 := by
    have h := hwn1 c.data.toList.length (by simp [DataW.weights, DataW.weightsEach, Tryd.underlying23])
    rw [size_toList] at h
    exact of_decide_eq_true h
  obtain ⟨c20, c21, c22, y20, y21, y22, nf2, rfl, rfl, rfl, hy20, hy21, hy22⟩ := open_agg3 Tryd.underlying23 (by kernel_rfl) (by kernel_rfl : Tryd.prog.cellsOf 23 = 3) (hval 2 23 v2 rfl rfl) h2
  obtain ⟨x, ex, rfl, _⟩ := DataW.trod_string Tryd.underlying9 hy20
  obtain rfl : c20 = .string x := by simpa using ex
  obtain ⟨y, ey, rfl, _⟩ := DataW.trod_string Tryd.underlying9 hy21
  obtain rfl : c21 = .string y := by simpa using ey
  obtain ⟨z, ez, rfl, _⟩ := DataW.trod_string Tryd.underlying9 hy22
  obtain rfl : c22 = .string z := by simpa using ez
  have hwn2 := fun n hn => List.all_eq_true.1 hwt n (DataW.weights_mem_each (j := 2) (t := 23) rfl rfl n hn)
  have zx : x.size ≤ 140737488351232 := by
    have h := hwn2 x.data.toList.length (by simp [DataW.weights, DataW.weightsEach, Tryd.underlying23])
    rw [size_toList] at h
    exact of_decide_eq_true h
  have zy : y.size ≤ 140737488351232 := by
    have h := hwn2 y.data.toList.length (by simp [DataW.weights, DataW.weightsEach, Tryd.underlying23])
    rw [size_toList] at h
    exact of_decide_eq_true h
  have zz : z.size ≤ 140737488351232 := by
    have h := hwn2 z.data.toList.length (by simp [DataW.weights, DataW.weightsEach, Tryd.underlying23])
    rw [size_toList] at h
    exact of_decide_eq_true h
  refine (tells19 s a b c x y z W ws za zb zc zx zy zz hML).mono fun e W' ⟨he, hb⟩ => ?_
  subst he
  exact ⟨_, rfl, post_law laidOut (by kernel_rfl) (T := 4) (by kernel_rfl) Tryd.underlying4 hW' rfl rfl hb⟩

/-- A WORLD FOR THE WITNESS: the settled one, each table holding what its initialiser lays. -/
def tabPut (h : Array Obj) (g : Nat) (cs : Array Value) : Array Obj := h.modify g fun
  | .cells _ t frozen => .cells cs t frozen
  | o => o
noncomputable def laidWorld (os : Os) : World :=
  { World.holding Tryd.prog os ⟨#[], #[], []⟩ with heap := (tabPut (tabPut (World.holding Tryd.prog os ⟨#[], #[], []⟩).heap 2 (#[.int .u8 128, .int .u8 191, .int .u8 160, .int .u8 191, .int .u8 128, .int .u8 159, .int .u8 144, .int .u8 191, .int .u8 128, .int .u8 143, .int .u8 0, .int .u8 0, .int .u8 0, .int .u8 0, .int .u8 0, .int .u8 0, .int .u8 0, .int .u8 0, .int .u8 0, .int .u8 0, .int .u8 0, .int .u8 0, .int .u8 0, .int .u8 0, .int .u8 0, .int .u8 0, .int .u8 0, .int .u8 0, .int .u8 0, .int .u8 0, .int .u8 0, .int .u8 0])) 1 ((Lib.firstTab.map fun z => Value.int .u8 z).toArray)) }
theorem laid_met (os : Os) : laidMet Tryd.prog Rows.jidTellsRow.laid ((laidWorld os).forCall (fun _ _ => 0) ⟨#[], #[.string ⟨#[]⟩, .agg #[.string ⟨#[]⟩, .string ⟨#[]⟩, .string ⟨#[]⟩], .agg #[.string ⟨#[]⟩, .string ⟨#[]⟩, .string ⟨#[]⟩]], []⟩).memory :=
  laidMet_of_run' 8 (by kernel_rfl) (by kernel_rfl)
theorem reads (os : Os) {H : Type} (enc : TypeId × Value → H) : ∃ places, DataW.whole enc Tryd.prog ((laidWorld os).forCall (fun _ _ => 0) ⟨#[], #[.string ⟨#[]⟩, .agg #[.string ⟨#[]⟩, .string ⟨#[]⟩, .string ⟨#[]⟩], .agg #[.string ⟨#[]⟩, .string ⟨#[]⟩, .string ⟨#[]⟩]], []⟩).memory Tryd.f7.params.toList Rows.jidTellsSpec.vars false (#[.string ⟨#[]⟩, .agg #[.string ⟨#[]⟩, .string ⟨#[]⟩, .string ⟨#[]⟩], .agg #[.string ⟨#[]⟩, .string ⟨#[]⟩, .string ⟨#[]⟩]] : Array Value).toList 8 = some ([.lit (.string []), .agg [.lit (.string []), .lit (.string []), .lit (.string [])], .agg [.lit (.string []), .lit (.string []), .lit (.string [])]], [], places) :=
  ⟨[], by kernel_rfl⟩

set_option maxRecDepth 100000 in
theorem lifted (os : Os) (started : os.Started) (H : Type) (enc : TypeId × Value → H) (F : Stop.Interp) :
    ReturnsInHanded {} Tryd.checked os 7 .any ((OpenSpec.ofChange Rows.jidTellsSpec).preRow enc Tryd.prog Tryd.f7 Rows.jidTellsRow.domain false Rows.jidTellsRow.laid) (((OpenSpec.ofChange Rows.jidTellsSpec).at F).post enc Tryd.prog Tryd.f7 false true false false) := by
  obtain ⟨places, hx⟩ := reads os enc
  refine returnsInHanded_of_row (C := Tryd.checked) (s := (OpenSpec.ofChange Rows.jidTellsSpec)) own started (by kernel_rfl) Tryd.func7
    (witness_row_at (enc := enc) (C := Tryd.checked) false (laidWorld os) #[.string ⟨#[]⟩, .agg #[.string ⟨#[]⟩, .string ⟨#[]⟩, .string ⟨#[]⟩], .agg #[.string ⟨#[]⟩, .string ⟨#[]⟩, .string ⟨#[]⟩]] rfl (by kernel_rfl) (by kernel_rfl) (by kernel_rfl)
      (OpenSpec.preRow_of_cond 8 hx (by kernel_rfl) (fun k hk => by cases hk) (by kernel_rfl) (laid_met os))) ?_
  intro W base args ds gs before hval hW _ _ hwt hL hsh _
  exact contract H enc W base args ds gs before hval hW hL hsh hwt

theorem said : Rows.JidTellsSaid :=
  OpenClaim.holds_of_cond 7 Tryd.f7 rfl rfl rfl rfl rfl rfl rfl ⟨rfl, rfl, rfl, rfl, rfl⟩ rfl rfl rfl rfl rfl (by kernel_rfl) Tryd.func7 (by kernel_rfl)
    (of_decide_eq_true (by kernel_rfl)) (by unfold Func.isWrapper; rw [if_neg (of_decide_eq_false (by kernel_rfl))]; exact ⟨rfl, rfl⟩)
    (fun os started H enc _ F => by rw [OpenClaim.pre_eq_preRow]; exact lifted os started H enc F)

/-- No parameter wants a stand-in; the program's own looks are off: what the card asks. -/
theorem plain (f : FuncId) (fn : Func) (hf : Tryd.pinned.checked.prog.funcNamed "tidewaiter/tidewaiterlaw19.JidTells" = some f) (hfn : Tryd.pinned.checked.prog.funcs[f]? = some fn) :
    false = Tryd.pinned.checked.prog.looks [] ∧ ∀ (j : Nat) t, fn.params[j]? = some t → Tryd.pinned.checked.prog.wantsStandIn t = false := by
  obtain rfl : f = 7 := Option.some.inj ((show Tryd.prog.funcNamed "tidewaiter/tidewaiterlaw19.JidTells" = some 7 by kernel_rfl).symm.trans hf) |>.symm
  obtain rfl : fn = Tryd.f7 := (Option.some.inj (Tryd.func7.symm.trans hfn)).symm
  refine ⟨by kernel_rfl, fun j t ht => ?_⟩
  rw [Tryd.params7] at ht
  have hm := Array.mem_of_getElem? ht
  simp at hm
  rcases hm with rfl | rfl
  · exact (show Tryd.prog.wantsStandIn 9 = false by kernel_rfl)
  · exact (show Tryd.prog.wantsStandIn 23 = false by kernel_rfl)

/-- THE CARD. -/
theorem card : Rows.JidTellsCardSaid :=
  Claim7.holds_tied_plain_at .later [] _ _ _ _ said (fun _ h => by cases h) (by kernel_rfl) (fun _ h => by cases h) jidTells_row_tie rfl ⟨rfl, rfl⟩ (by kernel_rfl) rfl plain (by kernel_rfl)

#print axioms card
end Go.Proofs.YtfonkblbgadhmaaDoor.jidTells
