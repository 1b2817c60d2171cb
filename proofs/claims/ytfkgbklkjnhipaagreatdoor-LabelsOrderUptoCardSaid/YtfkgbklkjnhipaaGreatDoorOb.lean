/- The row and the card of LabelsOrder: for every three lists of labels the law returns true. Conditions: what it reads is of bulk at most 1048576; the tables of utf8 hold what start-up lays (the card ties them). -/
import Derived.Test.YtfkgbklkjnhipaaGreatDoorCards
import Derived.Test.YtfkgbklkjnhipaaGreatDoorTie
import Derived.Test.YtfkgbklkjnhipaaGreatDoorOa
import Derived.WalkKit
import Derived.ProofKit
import Derived.OpenShut
import Derived.Lib.LaidIn
import Derived.Lib.LaidU8T
import Derived.Deep.DeepHandedRow
import Derived.Deep.DeepWitnessRowRef
import Derived.Deep.SlicePairs
import Derived.Below
import Derived.PinnedBridge
namespace Go.Proofs.YtfkgbklkjnhipaaGreatDoor.labelsOrder
open Go.ChangeShapes Go.WideShapes Go.ChangeAt Go.RowKit Go.Lib Go.Shelf
open Go.Proofs.YtfkgbklkjnhipaaGreatDoor.P Go.Proofs.YtfkgbklkjnhipaaGreatDoorW.PrintWords

theorem own : ownKnob Tryz.prog.godebug = none := by kernel_rfl
theorem laidOut : laidOutB Tryz.prog = true := by kernel_rfl

/-! ### what the bound gives -/
theorem bulk_part {H : Type} {d : DataW H} {l : List (DataW H)} (h : d ∈ l) : Rows.uptoBulk d ≤ Rows.uptoBulkAll l := by
  induction l with
  | nil => cases h
  | cons x r ih =>
    simp only [Rows.uptoBulkAll]
    cases List.mem_cons.1 h with
    | inl e => subst e; omega
    | inr e => have := ih e; omega
theorem bulk_one {H : Type} (d : DataW H) : 1 ≤ Rows.uptoBulk d := by
  cases d with
  | lit l => cases l <;> simp [Rows.uptoBulk]
  | nil => simp [Rows.uptoBulk]
  | ptr d => simp [Rows.uptoBulk]
  | slice elems spare => simp [Rows.uptoBulk]
  | agg parts => simp [Rows.uptoBulk]
  | iface t d => simp [Rows.uptoBulk]
  | map entries => simp [Rows.uptoBulk]
  | held h => simp [Rows.uptoBulk]
theorem bulk_length {H : Type} (l : List (DataW H)) : l.length ≤ Rows.uptoBulkAll l := by
  induction l with
  | nil => simp [Rows.uptoBulkAll]
  | cons x r ih => have := bulk_one x; simp only [Rows.uptoBulkAll, List.length_cons]; omega

/-! ### a list of labels that came in -/
def lastField : Field := { name := "Value", type := 9, offset := 1, embedded := false, tag := "", pkgPath := "", byteOffset := 16 }
def firstField : Field := { name := "Name", type := 9, offset := 0, embedded := false, tag := "", pkgPath := "", byteOffset := 0 }
theorem under_label : Tryz.prog.underlying 67 = some (.struct #[firstField, lastField]) := Tryz.underlying67
/-- What a list of labels reads as. -/
theorem open_labels {H : Type} {enc : TypeId × Value → H} {W : World} {base : Nat} {sp : Nat → Bool} {hd : Bool} {a : Option Addr} {len cap : Nat} {d : DataW H} {ps : List MemPlace} {B : Nat}
    (h : DataW.Trod enc Tryz.prog W base sp hd 41 (.slice a len cap) d ps) (hB : Rows.uptoBulk d ≤ B) (hle : B ≤ 1048576) :
    ∃ l : List S67, l.length = len ∧ len ≤ cap ∧ len ≤ 1048576 ∧ Kd.C k67 W a l.length l ∧ ∀ x, x ∈ l → x.f0.size ≤ 1048576 ∧ x.f1.size ≤ 1048576 := by
  obtain ⟨fuel, hf⟩ := h
  rcases Go.Deep.open_slice_pairs Tryz.underlying41 under_label (by kernel_rfl) rfl rfl (by kernel_rfl) (by kernel_rfl) hf with ⟨hcs, hx⟩ | ⟨x, l, c, m, n, V0, V1, D0, D1, P0, P1, hcs, _, hl, hm, hmm, hx, hcell⟩
  · simp [Value.cells] at hcs
    obtain ⟨rfl, rfl, rfl⟩ := hcs
    exact ⟨[], rfl, Nat.le_refl _, by omega, ⟨rfl, by simp, fun h => absurd h (by simp)⟩, fun x hx => by cases hx⟩
  · simp [Value.cells] at hcs
    obtain ⟨rfl, rfl, rfl⟩ := hcs
    obtain ⟨rfl, rfl⟩ := Prod.mk.inj hx
    have hlm : len ≤ m := by rw [hmm]; split <;> omega
    have each : ∀ i, ∃ s : S67, i < m → V0 i = .string s.f0 ∧ V1 i = .string s.f1 ∧ D0 i = .lit (.string s.f0.data.toList) ∧ D1 i = .lit (.string s.f1.data.toList) := by
      intro i
      by_cases hi : i < m
      · obtain ⟨_, _, h0, h1⟩ := hcell i hi
        obtain ⟨s0, e0, f0, _⟩ := DataW.trod_string Tryz.underlying9 h0
        obtain ⟨s1, e1, f1, _⟩ := DataW.trod_string Tryz.underlying9 h1
        exact ⟨⟨s0, s1⟩, fun _ => ⟨by simpa using e0, by simpa using e1, (Prod.mk.inj f0).1, (Prod.mk.inj f1).1⟩⟩
      · exact ⟨z67, fun h => absurd h hi⟩
    obtain ⟨Sx, hS⟩ := Classical.axiomOfChoice each
    simp only [Rows.uptoBulk] at hB
    have hlen : len ≤ 1048576 := by
      have := bulk_length ((List.range len).map fun i => (DataW.agg [D0 i, D1 i] : DataW H))
      rw [List.length_map, List.length_range] at this
      omega
    refine ⟨(List.range len).map Sx, by simp, hl, hlen, ⟨rfl, by simp; omega, fun _ => ⟨x, rfl, fun j p hj => ?_⟩⟩, fun p hp => ?_⟩
    · obtain ⟨hjl, rfl⟩ : j < len ∧ Sx j = p := by
        rw [List.getElem?_map] at hj
        obtain ⟨q, h1, h2⟩ := Option.map_eq_some_iff.1 hj
        obtain ⟨h3, h4⟩ := List.getElem?_eq_some_iff.1 h1
        rw [List.length_range] at h3
        rw [List.getElem_range] at h4
        subst h4
        exact ⟨h3, h2⟩
      obtain ⟨h1, h2, _, _⟩ := hcell j (by omega)
      obtain ⟨e1, e2, _, _⟩ := hS j (by omega)
      refine ⟨[.string (Sx j).f0, .string (Sx j).f1], rfl, k67_mk W _, fun i u hu => ?_⟩
      rcases i with _ | _ | i
      · obtain rfl := Option.some.inj hu
        rw [← e1]; exact h1
      · obtain rfl := Option.some.inj hu
        rw [← e2]; exact h2
      · simp at hu
    · obtain ⟨j, hj, rfl⟩ := List.mem_map.1 hp
      rw [List.mem_range] at hj
      obtain ⟨_, _, e3, e4⟩ := hS j (by omega)
      have hb := bulk_part (H := H) (d := .agg [D0 j, D1 j]) (l := (List.range len).map fun i => (DataW.agg [D0 i, D1 i] : DataW H)) (List.mem_map.2 ⟨j, List.mem_range.2 hj, rfl⟩)
      rw [e3, e4] at hb
      simp only [Rows.uptoBulk, Rows.uptoBulkAll] at hb
      have s0 : (Sx j).f0.data.toList.length = (Sx j).f0.size := data_length _
      have s1 : (Sx j).f1.data.toList.length = (Sx j).f1.size := data_length _
      omega

/-! ### the tables -/
set_option maxRecDepth 100000 in
theorem tabs {W : World} (hL : laidMetH Tryz.prog Rows.labelsOrderUptoRow.laid W) : Tabs W := by
  have hl : Rows.labelsOrderUptoRow.laid = [("unicode/utf8.acceptRanges", Rows.laid_unicode_utf8_acceptRanges), ("unicode/utf8.first", Rows.laid_unicode_utf8_first)] := rfl
  rw [hl] at hL
  have h1 := Lib.laidMet.reads (n := "unicode/utf8.acceptRanges") (d := Rows.laid_unicode_utf8_acceptRanges) hL (.head _)
  have h2 := Lib.laidMet.reads (n := "unicode/utf8.first") (d := Rows.laid_unicode_utf8_first) hL (.tail _ (.head _))
  exact utf8Tabs_of_readsT (U8Types.of196 Tryz.laysValid) ⟨by kernel_rfl, by kernel_rfl, by kernel_rfl, by kernel_rfl, by kernel_rfl, by kernel_rfl, by kernel_rfl⟩ (by rw [← Pinned.utf8First_eq]; exact h2) h1

set_option maxRecDepth 100000 in
/-- THE CONTRACT: for every three lists of labels and every world that holds the tables. -/
theorem contract (H : Type) (enc : TypeId × Value → H) (W : World) (base : Nat) (args : Array Value) (ds gs : List (DataW H)) (before : List MemPlace)
    (hval0 : ∀ (j : Nat) t v, Tryz.f7.params[j]? = some t → args[j]? = some v → Value.okWide Tryz.prog W .any base t v)
    (hW : DataW.Whole enc Tryz.prog Tryz.f7.params.toList Rows.labelsOrderSpec.vars false W args.toList ds gs before) (hT : Tabs W) (hB : Rows.uptoBulkAll (ds ++ gs) ≤ 1048576) :
    Calls Tryz.prog 7 args W fun e W' => ∃ v, e = .returned v ∧ Rows.labelsOrderSpec.post enc Tryz.prog Tryz.f7 false true false false W args v W' := by
  have hval := hval0
  have hW' := hW
  obtain ⟨p, q, hA0, hV, rfl, hfz, hnd⟩ := hW
  have hA : DataW.TrodAll enc Tryz.prog W 0 (fun _ => true) true Tryz.f7.params.toList args.toList ds p := hA0
  rw [Tryz.params7] at hA hval
  obtain ⟨v0, vs0, d0, ds0, p0, q0, hargs, rfl, rfl, h0, r0⟩ := trodAll_cons hA
  obtain ⟨v1, vs1, d1, ds1, p1, q1, rfl, rfl, rfl, h1, r1⟩ := trodAll_cons r0
  obtain ⟨v2, vs2, d2, ds2, p2, q2, rfl, rfl, rfl, h2, r2⟩ := trodAll_cons r1
  obtain ⟨rfl, rfl, rfl⟩ := trodAll_nil r2
  obtain rfl : args = #[v0, v1, v2] := by cases args; simp_all
  obtain ⟨rfl, rfl⟩ := trodVars_none hV
  obtain ⟨a0, len0, cap0, rfl⟩ := okWide_slice Tryz.underlying41 (hval 0 41 v0 rfl rfl)
  obtain ⟨a1, len1, cap1, rfl⟩ := okWide_slice Tryz.underlying41 (hval 1 41 v1 rfl rfl)
  obtain ⟨a2, len2, cap2, rfl⟩ := okWide_slice Tryz.underlying41 (hval 2 41 v2 rfl rfl)
  have lt0 : ∀ x ∈ p0, x.block < W.heap.size := by obtain ⟨m, hm⟩ := h0; exact DataW.trod_lt m _ _ _ hm
  have lt1 : ∀ x ∈ p1, x.block < W.heap.size := by obtain ⟨m, hm⟩ := h1; exact DataW.trod_lt m _ _ _ hm
  have lt2 : ∀ x ∈ p2, x.block < W.heap.size := by obtain ⟨m, hm⟩ := h2; exact DataW.trod_lt m _ _ _ hm
  simp only [List.append_nil, Rows.uptoBulkAll] at hB
  obtain ⟨l0, rfl, c0, n0, C0, s0⟩ := open_labels h0 (B := 1048576) (by omega) (Nat.le_refl _)
  obtain ⟨l1, rfl, c1, n1, C1, s1⟩ := open_labels h1 (B := 1048576) (by omega) (Nat.le_refl _)
  obtain ⟨l2, rfl, c2, n2, C2, s2⟩ := open_labels h2 (B := 1048576) (by omega) (Nat.le_refl _)
  obtain ⟨k, hk⟩ := order_pure l0 l1 l2 (by omega) (by omega) (by omega) (fun x hx => ⟨by have := (s0 x hx).1; omega, by have := (s0 x hx).2; omega⟩)
  clear hA0 hval hval0 hB
  refine (tocsinlaw04_LabelsOrder.calls k a0 cap0 l0 a1 cap1 l1 a2 cap2 l2 true W C0 c0 C1 c1 C2 c2 hk hT).mono fun e W' ⟨he, bel⟩ => ?_
  subst he
  exact ⟨_, rfl, _, _, _, [], _, [], hW', trodAll_mk1 (shut_bool Tryz.underlying4 _),
    trodAll_cons_mk (Below.trod laidOut (by kernel_rfl) (of_decide_eq_true (by kernel_rfl)) h0 bel lt0) (trodAll_cons_mk (Below.trod laidOut (by kernel_rfl) (of_decide_eq_true (by kernel_rfl)) h1 bel lt1) (trodAll_cons_mk (Below.trod laidOut (by kernel_rfl) (of_decide_eq_true (by kernel_rfl)) h2 bel lt2) trodAll_mk0)), rfl, bel.frame _, fun h => by cases h⟩

/-! ### the witness, the row, the card -/
noncomputable def laidWorld (os : Os) : World :=
  let w0 := World.holding Tryz.prog os ⟨#[], #[], []⟩
  let put (h : Array Obj) (g : Nat) (cs : Array Value) : Array Obj := h.modify g fun
    | .cells _ t frozen => .cells cs t frozen
    | o => o
  let h1 := put w0.heap (Tryz.laysValid_ren.g 3) (Lib.firstTab.map fun z => Value.int .u8 z).toArray
  let h2 := put h1 (Tryz.laysValid_ren.g 4) ((List.range 16).flatMap fun i => [Value.int .u8 (Lib.accLo i), Value.int .u8 (Lib.accHi i)]).toArray
  { w0 with heap := h2 }
def nils : Array Value := #[.slice none 0 0, .slice none 0 0, .slice none 0 0]
theorem laid_met (os : Os) : laidMet Tryz.prog Rows.labelsOrderUptoRow.laid ((laidWorld os).forCall (fun _ _ => 0) ⟨#[], nils, []⟩).memory :=
  laidMet_of_run' 8 (by kernel_rfl) (by kernel_rfl)
theorem reads (os : Os) {H : Type} (enc : TypeId × Value → H) : ∃ places, DataW.whole enc Tryz.prog ((laidWorld os).forCall (fun _ _ => 0) ⟨#[], nils, []⟩).memory Tryz.f7.params.toList Rows.labelsOrderSpec.vars false nils.toList 8 = some ([.nil, .nil, .nil], [], places) :=
  ⟨[], by kernel_rfl⟩
set_option maxRecDepth 100000 in
theorem liftedUpto (os : Os) (started : os.Started) (H : Type) (enc : TypeId × Value → H) (F : Stop.Interp) :
    ReturnsInHanded {} Tryz.checked os 7 .any ((Rows.OpenSpec.upto Rows.labelsOrderSpec).preRow enc Tryz.prog Tryz.f7 Rows.labelsOrderUptoRow.domain false Rows.labelsOrderUptoRow.laid) (((Rows.OpenSpec.upto Rows.labelsOrderSpec).at F).post enc Tryz.prog Tryz.f7 false true false false) := by
  obtain ⟨places, hx⟩ := reads os enc
  refine returnsInHanded_of_row (C := Tryz.checked) (s := Rows.OpenSpec.upto Rows.labelsOrderSpec) own started (by kernel_rfl) Tryz.func7
    (witness_row_atRef (enc := enc) (C := Tryz.checked) false (laidWorld os) nils rfl (by kernel_rfl) (by kernel_rfl) (by kernel_rfl)
      (OpenSpec.preRow_of_cond 8 hx (by kernel_rfl) (fun k hk => by cases hk; kernel_rfl) (by kernel_rfl) (laid_met os))) ?_
  intro W base args ds gs before hval hW _ hcond _ hL _ _
  have hk := of_decide_eq_true (hcond _ rfl)
  exact contract H enc W base args ds gs before hval hW (tabs hL) hk
theorem saidUpto : Rows.LabelsOrderUptoSaid :=
  OpenClaim.holds_of_cond 7 Tryz.f7 rfl rfl rfl rfl rfl rfl rfl ⟨rfl, rfl, rfl, rfl, rfl⟩ rfl rfl rfl rfl rfl (by kernel_rfl) Tryz.func7 (by kernel_rfl)
    (of_decide_eq_true (by kernel_rfl)) (by unfold Func.isWrapper; first | (rw [if_pos (by decide +kernel)]; kernel_rfl) | (rw [if_neg (by decide +kernel)]; exact ⟨rfl, rfl⟩))
    (fun os started H enc _ F => by rw [OpenClaim.pre_eq_preRow]; exact liftedUpto os started H enc F)

/-- No parameter wants a stand-in; the program's own looks are off: what the card asks. -/
theorem plain (f : FuncId) (fn : Func) (hf : Tryz.pinned.checked.prog.funcNamed "tocsin/tocsinlaw04.LabelsOrder" = some f) (hfn : Tryz.pinned.checked.prog.funcs[f]? = some fn) :
    true = Tryz.pinned.checked.prog.looks [] ∧ ∀ (j : Nat) t, fn.params[j]? = some t → Tryz.pinned.checked.prog.wantsStandIn t = false := by
  obtain rfl : f = 7 := Option.some.inj ((show Tryz.prog.funcNamed "tocsin/tocsinlaw04.LabelsOrder" = some 7 by kernel_rfl).symm.trans hf) |>.symm
  obtain rfl : fn = Tryz.f7 := (Option.some.inj (Tryz.func7.symm.trans hfn)).symm
  refine ⟨by kernel_rfl, fun j t ht => ?_⟩
  rw [Tryz.params7] at ht
  obtain rfl : t = 41 := by simpa using Array.mem_of_getElem? ht
  exact (show Tryz.prog.wantsStandIn 41 = false by kernel_rfl)

/-- THE CARD -/
theorem cardUpto : Rows.LabelsOrderUptoCardSaid :=
  Claim7.holds_tied_plain_at .later [] _ _ _ _ saidUpto (fun _ h => by cases h) (by kernel_rfl) (fun _ h => by cases h) labelsOrderUpto_row_tie rfl ⟨rfl, rfl⟩ (by kernel_rfl) rfl plain (by kernel_rfl)
#print axioms cardUpto
end Go.Proofs.YtfkgbklkjnhipaaGreatDoor.labelsOrder
namespace Go.Proofs.YtfkgbklkjnhipaaGreatDoor
/-- The card, under a short name, for the claim. -/
theorem labelsOrder_holds : Rows.LabelsOrderUptoCardSaid := labelsOrder.cardUpto
end Go.Proofs.YtfkgbklkjnhipaaGreatDoor
