/- Contracts of leaves, in the printer's form: labels.own. -/
import Derived.Test.YtfkgbklkjnhipaaGreatDoorPx0
import Derived.Laws.CopyRow
import Derived.Lib.Hide
namespace Go.Proofs.YtfkgbklkjnhipaaGreatDoor.P
open Go.RowKit Go.Proofs.YtfkgbklkjnhipaaGreatDoorW.PrintWords Go.Proofs.YtfkgbklkjnhipaaGreatDoorW.PrintLast Go.Proofs.YtfkgbklkjnhipaaGreatDoorW.PrintMore
set_option linter.unusedVariables false
set_option linter.unusedSimpArgs false

/-! ### copy(dst, src), elements of any number of cells, dst a whole row of the call's own -/
theorem run_copy_k {P : Program} (w : World) (dT sT ty elem size : Nat) (g dLen dCap : Nat) (sp : Option Addr) (sLen sCap : Nat) (cur : Array Value) (t : TypeId) (cs : List Value)
    (hu : P.underlying dT = some (.slice elem)) (hs : (P.info? elem).map (·.size) = some size)
    (hg : w.heap[g]? = some (.cells cur t (0, 0))) (hn : cs.length = Nat.min sLen dLen * size)
    (hnil : sp = none → cs = []) (hsrc : ∀ ad, sp = some ad → ∀ j v, cs[j]? = some v → w.cell? (ad.add j) = some v) (hfit : cs.length ≤ cur.size) (h1 : ∀ v ∈ cs, v.oneCell' = true) :
    (Builtin.copy_ #[dT, sT] ty #[.slice (some ⟨g, 0, none⟩) dLen dCap, .slice sp sLen sCap]).run P w =
      .ok (goInt (Nat.min sLen dLen)) (w.setRow g (cs ++ cur.toList.drop cs.length).toArray) := by
  have hst := run_storeCells_at P g 0 t cs 0 cur w hg (by simpa using hfit) h1
  have hst' : (storeCells ⟨g, 0, none⟩ cs 0).run P w = .ok () (w.setRow g (cs ++ cur.toList.drop cs.length).toArray) := by simpa using hst
  cases hq : P.info? elem with
  | none => simp [hq] at hs
  | some i =>
    have hi : i.size = size := by simpa [hq] using hs
    have hfc : (Builtin.firstCells size (Nat.min sLen dLen) (.slice sp sLen sCap)).run P w = .ok cs.toArray w := by
      cases sp with
      | none => rw [hnil rfl]; exact run_firstCells_none w size _ sLen sCap
      | some a => exact run_firstCells_some w size _ a sLen sCap cs hn (hsrc a rfl)
    simp [Builtin.copy_, run_underlying hu, Builtin.lenOf, sizeOf, typeInfo, hq, hi, hfc, hst']
theorem wpList_copy_k {P : Program} {w : World} {ops : Array Oper} {rest : List Oper} {o : Oper} {a : Act} {Q : Exit → Act → World → Prop} (hgd : o.guard = none) (d s : Operand) (dT sT : TypeId)
    (ho : o.op = .call { callee := .builtin .copy, args := #[d, s], argTypes := #[dT, sT] }) (elem size : Nat) (hu : P.underlying dT = some (.slice elem)) (hsz : (P.info? elem).map (·.size) = some size)
    (g dLen dCap : Nat) (sp : Option Addr) (sLen sCap : Nat) (hd : a.eval d = .slice (some ⟨g, 0, none⟩) dLen dCap) (hs : a.eval s = .slice sp sLen sCap)
    (cur : Array Value) (t : TypeId) (hg : w.heap[g]? = some (.cells cur t (0, 0))) (cs : List Value) (hn : cs.length = Nat.min sLen dLen * size)
    (hnil : sp = none → cs = []) (hsrc : ∀ ad, sp = some ad → ∀ j v, cs[j]? = some v → w.cell? (ad.add j) = some v) (hfit : cs.length ≤ cur.size) (h1 : ∀ v ∈ cs, v.oneCell' = true)
    (h : wpList P ops Q rest (a.put o.dst (goInt (Nat.min sLen dLen))) (w.setRow g (cs ++ cur.toList.drop cs.length).toArray)) : wpList P ops Q (o :: rest) a w := by
  refine wpList_plain hgd fun K hK => ?_
  have hrun := run_copy_k (P := P) w dT sT o.type elem size g dLen dCap sp sLen sCap cur t cs hu hsz hg hn hnil hsrc hfit h1
  unfold Oper.wp
  simp [execOp, ho, resolve, invoke, builtin, hd, hs, hrun, Result.andThen]
  exact hK _ _ h

/-! ### a list of labels and its cells -/
def labCells (l : List S67) : List Value := l.flatMap fun x => [.string x.f0, .string x.f1]
theorem labCells_length (l : List S67) : (labCells l).length = l.length * 2 := by
  induction l with
  | nil => rfl
  | cons x l ih => simp only [labCells, List.flatMap_cons, List.length_append, List.length_cons, List.length_nil] at ih ⊢; omega
theorem labCells_append (l m : List S67) : labCells (l ++ m) = labCells l ++ labCells m := by simp [labCells, List.flatMap_append]
theorem labCells_seg : ∀ (l : List S67) (j : Nat) (p : S67), l[j]? = some p → ((labCells l).drop (j * 2)).take 2 = [.string p.f0, .string p.f1]
  | [], j, p, h => by simp at h
  | x :: l, 0, p, h => by
    have : x = p := by simpa using h
    subst this
    simp [labCells]
  | x :: l, j + 1, p, h => by
    have ih := labCells_seg l j p (by simpa using h)
    have e : labCells (x :: l) = .string x.f0 :: .string x.f1 :: labCells l := rfl
    rw [e, show (j + 1) * 2 = j * 2 + 1 + 1 by omega, List.drop_succ_cons, List.drop_succ_cons]
    exact ih
theorem labCells_at : ∀ (l : List S67) (i : Nat) (u : Value), (labCells l)[i]? = some u → ∃ p, l[i / 2]? = some p ∧ ([.string p.f0, .string p.f1] : List Value)[i % 2]? = some u
  | [], i, u, h => by simp [labCells] at h
  | x :: l, 0, u, h => ⟨x, rfl, by simpa [labCells] using h⟩
  | x :: l, 1, u, h => ⟨x, rfl, by simpa [labCells] using h⟩
  | x :: l, i + 2, u, h => by
    have h' : (labCells l)[i]? = some u := by simpa [labCells] using h
    obtain ⟨p, h1, h2⟩ := labCells_at l i u h'
    exact ⟨p, by rw [show (i + 2) / 2 = i / 2 + 1 by omega]; simpa using h1, by rw [show (i + 2) % 2 = i % 2 by omega]; exact h2⟩
theorem labCells_one (l : List S67) : ∀ v ∈ labCells l, v.oneCell' = true := by
  intro v hv
  simp only [labCells, List.mem_flatMap, List.mem_cons, List.not_mem_nil, or_false] at hv
  obtain ⟨x, _, rfl | rfl⟩ := hv <;> rfl
theorem labCells_reps {W : World} {base : Nat} {ok : Nat → Prop} (l : List S67) : Reps (k67.M W base ok) k67.sz l (labCells l) :=
  ⟨labCells_length l, fun j p hj => by rw [show k67.sz = 2 from rfl, labCells_seg l j p hj]; exact k67_mkM _ _ _ p⟩
/-- What is read, cell by cell. -/
theorem labCells_read {w : World} {A : Option Addr} {n : Nat} {l : List S67} (h : Kd.C k67 w A n l) : ∀ ad, A = some ad → ∀ j v, (labCells l)[j]? = some v → w.cell? (ad.add j) = some v := by
  intro ad hA j v hj
  obtain ⟨p, hp, hv⟩ := labCells_at l j v hj
  have hlt : j / 2 < l.length := (List.getElem?_eq_some_iff.1 hp).1
  obtain ⟨ad', e, hc⟩ := h.2.2 (by have := h.1; omega)
  rw [hA] at e
  obtain rfl := Option.some.inj e
  obtain ⟨c, hs, hr, hcell⟩ := hc (j / 2) p hp
  obtain rfl := k67_open hr
  have := hcell (j % 2) v hv
  rwa [show k67.sz = 2 from rfl, show j / 2 * 2 + j % 2 = j by omega] at this
theorem C_none {w : World} {n : Nat} {l : List S67} (h : Kd.C k67 w none n l) : l = [] := by
  cases l with
  | nil => rfl
  | cons x l =>
    obtain ⟨ad, e, _⟩ := h.2.2 (by have := h.1; simp at this; omega)
    cases e
/-- A whole block of labels is a row of the call's own. -/
theorem R_block {w : World} {base : Nat} {ok : Nat → Prop} {g : Nat} (l : List S67) (hb : base ≤ g) (hok : ok g) (hm : l.length ≤ 9223372036854775807) (hh : w.heap[g]? = some (.cells (labCells l).toArray 67 (0, 0))) :
    Kd.R k67 67 w base ok (.slice (some ⟨g, 0, none⟩) l.length l.length) l := by
  refine ⟨fun k hk => ?_, labCells l, ⟨labCells_length l, .inr ⟨g, l.length, (labCells l).toArray, rfl, hb, hh, Nat.le_refl _, by simpa [maxLen] using hm, ?_, ?_⟩⟩, labCells_reps l⟩
  · have : g = k := by simpa [Value.ownBlock] using hk
    subst this; exact hok
  · simp [labCells_length, show k67.sz = 2 from rfl]
  · simp only [show k67.sz = 2 from rfl]
    rw [List.take_of_length_le (by simp [labCells_length])]

/-! ### labels.own -/
def labels_own.f (l0 : List S67) : Option (List S67) := if l0.length ≤ 8796093022208 then some l0 else none
set_option maxHeartbeats 1000000 in
theorem labels_own.calls (A0 : Option Addr) (c0 : Nat) (l0 : List S67) (r : List S67) (w : World) (hr0 : Kd.C k67 w A0 l0.length l0) (hc0 : l0.length ≤ c0) (h : labels_own.f l0 = some r) :
    Calls Tryz.prog 144 #[.slice A0 l0.length c0] w fun e w' => ∃ v0_ : Value, e = .returned (v0_) ∧ Kd.R k67 67 w' w.heap.size (fun _ => True) v0_ r ∧ Below w.heap.size w w' := by
  have hl : l0.length ≤ 8796093022208 := by
    apply Classical.byContradiction
    intro hn
    simp [labels_own.f, hn] at h
  obtain rfl : l0 = r := by simpa [labels_own.f, hl] using h
  clear h
  obtain ⟨n, hn⟩ : ∃ n, l0.length = n := ⟨_, rfl⟩
  have hsz : (Tryz.prog.info? 67).map (·.size) = some 2 := by kernel_rfl
  obtain ⟨i0, hi, hzz⟩ := Option.map_eq_some_iff.1 info67
  simp only [Prod.mk.injEq] at hzz
  obtain ⟨hz0, hz1, hz2⟩ := hzz
  have hmk : ∀ W : World, (Instr.makeSlice 41 (.int .i64 (n : Int)) (.int .i64 (n : Int))).run Tryz.prog W = .ok (.slice (some ⟨W.heap.size, 0, none⟩) n n) (W.alloc (.cells (madeCells #[.string ⟨#[]⟩, .string ⟨#[]⟩] (n * 2)) 67)) := fun W => by
    have hr := run_make (P := Tryz.prog) W 41 67 i0 (.agg #[.string ⟨#[]⟩, .string ⟨#[]⟩]) Tryz.underlying41 hi hz0 .i64 .i64 (n : Int) (n : Int) (by omega) (by omega) (by rw [hz2]; omega) (by omega)
    simp only [Int.toNat_natCast] at hr
    rw [hz1] at hr
    exact hr
  have hg : (w.alloc (.cells (madeCells #[.string ⟨#[]⟩, .string ⟨#[]⟩] (n * 2)) 67)).heap[w.heap.size]? = some (.cells (madeCells #[.string ⟨#[]⟩, .string ⟨#[]⟩] (n * 2)) 67 (0, 0)) := heap_alloc_new w _
  have hrd := labCells_read (Kd.C_below hr0 (below_alloc (Below.refl _ w) (.cells (madeCells #[.string ⟨#[]⟩, .string ⟨#[]⟩] (n * 2)) 67)))
  have hnil : A0 = none → labCells l0 = [] := fun e => by subst e; rw [C_none hr0]; rfl
  have hfin : ∀ w2 : World, w2 = (w.alloc (.cells (madeCells #[.string ⟨#[]⟩, .string ⟨#[]⟩] (n * 2)) 67)).setRow w.heap.size (labCells l0 ++ (madeCells #[.string ⟨#[]⟩, .string ⟨#[]⟩] (n * 2)).toList.drop (labCells l0).length).toArray →
      Kd.R k67 67 w2 w.heap.size (fun _ => True) (.slice (some ⟨w.heap.size, 0, none⟩) n n) l0 ∧ Below w.heap.size w w2 := fun w2 e => by
    have e1 : (madeCells #[.string ⟨#[]⟩, .string ⟨#[]⟩] (n * 2)).toList.drop (labCells l0).length = [] := List.drop_eq_nil_of_le (by rw [labCells_length]; simp [madeCells]; omega)
    rw [e1, List.append_nil] at e
    subst e
    refine ⟨?_, ?_⟩
    · have h2 := R_block (base := w.heap.size) (ok := fun _ => True) l0 (Nat.le_refl _) trivial (by omega) (setRow_heap _ _ _ (labCells l0).toArray _ _ hg)
      rw [hn] at h2
      exact h2
    · exact (below_alloc (Below.refl _ w) _).trans ⟨rfl, rfl, rfl, by simp [World.setRow], fun k hk => setRow_other _ _ k _ (by omega)⟩
  have HN := Lib.hid hn
  have HC := Lib.hid hr0
  have HR := Lib.hid hrd
  have HF := Lib.hid hfin
  have HG := Lib.hid hg
  have HNIL := Lib.hid hnil
  clear hfin hrd hg hr0 hnil hsz
  rw [hn]
  clear hn
  go_enter Tryz.func144, Tryz.ntmps144
  go_wp2_with (refine wpList_copy_k rfl (.tmp 7) (.tmp 8) 41 41 rfl 67 2 Tryz.underlying41 (by kernel_rfl) w.heap.size n n A0 n c0 rfl rfl _ _ HG.out (labCells l0) ?_ ?_ ?_ ?_ (labCells_one l0) ?_)
  · rw [labCells_length, HN.out]; simp
  · exact HNIL.out
  · exact HR.out
  · rw [labCells_length, HN.out]; simp [madeCells]
  · generalize hw2 : World.setRow _ _ _ = w2
    have H2 := Lib.hid (HF.out w2 hw2.symm)
    clear hw2
    go_wp2
    go_ret
    exact ⟨_, rfl, H2.out.1, H2.out.2⟩
end Go.Proofs.YtfkgbklkjnhipaaGreatDoor.P
