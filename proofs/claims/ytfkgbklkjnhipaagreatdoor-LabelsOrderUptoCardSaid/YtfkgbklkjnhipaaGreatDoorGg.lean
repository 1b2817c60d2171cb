/- Contracts of leaves, in the printer's form: labels.Hash. -/
import Derived.Test.YtfkgbklkjnhipaaGreatDoorGc
import Derived.Test.YtfkgbklkjnhipaaGreatDoorGd
import Derived.Test.YtfkgbklkjnhipaaGreatDoorGa
import Derived.RegionTactic
namespace Go.Proofs.YtfkgbklkjnhipaaGreatDoor.P
open Go.RowKit Go.Proofs.YtfkgbklkjnhipaaGreatDoorW.PrintWords Go.Proofs.YtfkgbklkjnhipaaGreatDoorW.PrintLast Go.Proofs.YtfkgbklkjnhipaaGreatDoorW.PrintMore
set_option linter.unusedVariables false
set_option linter.unusedSimpArgs false

def hstep (h c : Int) : Int := IntKind.u64.wrap ((Go.bits .xor .u64 h (IntKind.u64.wrap c)) * 1099511628211)
def hfold (s : ByteArray) : Nat → Int → Int
  | 0, h => h
  | k + 1, h => hstep (hfold s k h) (bt s k)
def hput (h : Int) (s : ByteArray) : Int := IntKind.u64.wrap ((Go.bits .xor .u64 (hfold s s.size h) 255) * 1099511628211)

set_option maxHeartbeats 1000000 in
theorem put_any (B g : Nat) (s : ByteArray) (h : Int) (w : World) (hc : w.cell? ⟨g, 0, none⟩ = some (.int .u64 h)) (hf : w.frozen? ⟨g, 0, none⟩ = false) (hB : B ≤ g) (hsz : s.size ≤ 9223372036854775807) :
    Calls Tryz.prog 102 #[.string s, .pointer (some ⟨g, 0, none⟩)] w fun e w' => e = .returned (.tuple #[]) ∧ w'.cell? ⟨g, 0, none⟩ = some (.int .u64 (hput h s)) ∧ w'.frozen? ⟨g, 0, none⟩ = false ∧ Below B w w' ∧ ∀ j, j ≠ g → w'.heap[j]? = w.heap[j]? := by
  go_enter Tryz.func102, Tryz.ntmps102
  go_wp2
  go_loopw [6] (fun i wr => ∃ k : Nat, k ≤ s.size ∧ i = .int .i64 k ∧ wr.cell? ⟨g, 0, none⟩ = some (.int .u64 (hfold s k h)) ∧ wr.frozen? ⟨g, 0, none⟩ = false ∧ Hid (Below B w wr ∧ ∀ j, j ≠ g → wr.heap[j]? = w.heap[j]?)) (fun i _ => s.size - (intOf i).toNat)
  case atStart => exact ⟨0, Nat.zero_le _, rfl, hc, hf, Below.refl _ _, fun _ _ => rfl⟩
  case round =>
    obtain ⟨k, hk, rfl, hc1, hf1, hb⟩ := hrel
    clear hc hf
    by_cases hlt : k < s.size
    · have hltz : (k : Int) < (s.size : Int) := by omega
      have hx := bt_get s k hlt
      have hx' : (((s[k]'hlt).toNat : Nat) : Int) = bt s k := hx
      have HX := Lib.hid hx'
      clear hx hx'
      go_wp2
      go_region
      have e1 : IntKind.u64.wrap (bits BinOp.xor IntKind.u64 (hfold s k h) (IntKind.u64.wrap (s[k]'hlt).toNat) * 1099511628211) = hfold s (k + 1) h := by rw [HX.out]; rfl
      rw [e1]
      have c2 : (wr.setCell ⟨g, 0, none⟩ (.int .u64 (hfold s (k + 1) h))).drew.cell? ⟨g, 0, none⟩ = some (.int .u64 (hfold s (k + 1) h)) := (World.cell?_drew _ _).trans (World.cell?_setCell_same _ _ _ hc1)
      have f2 : (wr.setCell ⟨g, 0, none⟩ (.int .u64 (hfold s (k + 1) h))).drew.frozen? ⟨g, 0, none⟩ = false := by simp [hf1]
      have b2 : Below B w (wr.setCell ⟨g, 0, none⟩ (.int .u64 (hfold s (k + 1) h))).drew ∧ ∀ j, j ≠ g → (wr.setCell ⟨g, 0, none⟩ (.int .u64 (hfold s (k + 1) h))).drew.heap[j]? = w.heap[j]? := ⟨(hb.out.1.setCell hB _).drew, fun j hj => (Below.heap_setCell wr ⟨g, 0, none⟩ _ j hj).trans (hb.out.2 j hj)⟩
      generalize (wr.setCell ⟨g, 0, none⟩ (.int .u64 (hfold s (k + 1) h))).drew = w2 at c2 f2 b2 ⊢
      have B2 := Lib.hid b2
      clear b2 e1 hc1 hf1 hb
      go_wp2
      go_roundw
      case rel => exact ⟨k + 1, by omega, by go_num, c2, f2, B2.out⟩
      case measure => simp [intOf]; omega
    · have hltz : ¬ (k : Int) < (s.size : Int) := by omega
      have hke : k = s.size := by omega
      subst hke
      have HBB := Lib.hid (And.intro (hb.out.1.setCell (p := ⟨g, 0, none⟩) hB (.int .u64 (hput h s))) (fun j (hj : j ≠ g) => (Below.heap_setCell wr ⟨g, 0, none⟩ (.int .u64 (hput h s)) j hj).trans (hb.out.2 j hj)))
      go_wp2
      go_end0
      exact ⟨rfl, World.cell?_setCell_same _ _ _ hc1, by simp [hf1], HBB.out.1, HBB.out.2⟩

/-- Two cells of a list of labels, read. -/
theorem lab_two {w : World} {A : Option Addr} {n : Nat} {l : List S67} (h : Kd.C k67 w A n l) (k : Nat) (hk : k < l.length) : ∃ ad, A = some ad ∧ w.cell? (ad.add (k * 2)) = some (.string (l[k]).f0) ∧ w.cell? ⟨(ad.add (k * 2)).block, (ad.add (k * 2)).off + 1, none⟩ = some (.string (l[k]).f1) := by
  obtain ⟨ad, e, _⟩ := h.2.2 (by have := h.1; omega)
  have hs := labCells_seg l k l[k] (List.getElem?_eq_getElem hk)
  have g0 : (labCells l)[k * 2]? = some (.string (l[k]).f0) := by
    have := congrArg (·[0]?) hs
    simpa [List.getElem?_take, List.getElem?_drop] using this
  have g1 : (labCells l)[k * 2 + 1]? = some (.string (l[k]).f1) := by
    have := congrArg (·[1]?) hs
    simpa [List.getElem?_take, List.getElem?_drop] using this
  refine ⟨ad, e, labCells_read h ad e _ _ g0, ?_⟩
  have := labCells_read h ad e _ _ g1
  have e2 : (⟨(ad.add (k * 2)).block, (ad.add (k * 2)).off + 1, none⟩ : Addr) = ad.add (k * 2 + 1) := by
    unfold Addr.add
    by_cases hk0 : k * 2 = 0
    · simp [hk0]
    · simp [hk0, Nat.add_assoc]
  rw [e2]; exact this

def hlab (h : Int) (x : S67) : Int := hput (hput h x.f0) x.f1
def okSizes (l0 : List S67) : Bool := l0.all fun x => decide (x.f0.size ≤ 9223372036854775807) && decide (x.f1.size ≤ 9223372036854775807)
def labels_Hash.f (l0 : List S67) : Option Int := if okSizes l0 = true then some (l0.foldl hlab 14695981039346656037) else none
theorem fold_take (l : List S67) (k : Nat) (hk : k < l.length) (h : Int) : (l.take (k + 1)).foldl hlab h = hlab ((l.take k).foldl hlab h) l[k] := by
  rw [List.take_succ_eq_append_getElem hk, List.foldl_append]; rfl

set_option maxRecDepth 100000 in
set_option maxHeartbeats 2000000 in
theorem labels_Hash.calls (A0 : Option Addr) (c0 : Nat) (l0 : List S67) (r : Int) (w : World) (hr0 : Kd.C k67 w A0 l0.length l0) (hc0 : l0.length ≤ c0) (h : labels_Hash.f l0 = some r) :
    Calls Tryz.prog 39 #[.slice A0 l0.length c0] w fun e w' => e = .returned (.int .u64 r) ∧ Below w.heap.size w w' := by
  obtain ⟨n, hn⟩ : ∃ n, l0.length = n := ⟨_, rfl⟩
  have hok : okSizes l0 = true := by
    apply Classical.byContradiction
    intro hne
    simp [labels_Hash.f, hne] at h
  have HR := Lib.hid (show l0.foldl hlab 14695981039346656037 = r by simpa [labels_Hash.f, hok] using h)
  have HSZ := Lib.hid (show ∀ (k : Nat) (hk : k < l0.length), (l0[k]).f0.size ≤ 9223372036854775807 ∧ (l0[k]).f1.size ≤ 9223372036854775807 from fun k hk => by
    have := List.all_eq_true.1 hok l0[k] (List.getElem_mem _)
    simpa using this)
  clear hok
  have hnn : n ≤ 9223372036854775807 := by have := hr0.2.1; omega
  have HN := Lib.hid hn
  have HC := Lib.hid hr0
  have hmf : ∀ (fn : Fn) (first cap : Array Value) (w : World), (Instr.makeFunc fn first cap).run Tryz.prog w = .ok (.func fn first cap) w := fun _ _ _ _ => rfl
  clear hr0 h
  rw [hn]
  clear hn
  go_enter Tryz.func39, Tryz.ntmps39
  go_wp2
  go_loopw [10] (fun i wr => ∃ k : Nat, k ≤ n ∧ i = .int .i64 k ∧ wr.cell? ⟨w.heap.size, 0, none⟩ = some (.int .u64 ((l0.take k).foldl hlab 14695981039346656037)) ∧ wr.frozen? ⟨w.heap.size, 0, none⟩ = false ∧ Hid (Below w.heap.size w wr ∧ w.heap.size < wr.heap.size)) (fun i _ => n - (intOf i).toNat)
  case atStart => exact ⟨0, Nat.zero_le _, rfl, by simp, by simp, below_alloc (Below.refl _ w) _, by simp⟩
  case round =>
    obtain ⟨k, hk, rfl, hc1, hf1, hb⟩ := hrel
    by_cases hlt : k < n
    · have hltz : (k : Int) < (n : Int) := by omega
      have hkl : k < l0.length := by rw [HN.out]; exact hlt
      obtain ⟨ad, e, g0, g1⟩ := lab_two (Kd.C_below HC.out hb.out.1) k hkl
      subst e
      have hsz := HSZ.out k hkl
      have HFT := Lib.hid (fold_take l0 k hkl 14695981039346656037)
      generalize l0[k] = x at g0 g1 hsz HFT
      obtain ⟨hs0, hs1⟩ := hsz
      generalize (l0.take k).foldl hlab 14695981039346656037 = hh at hc1 HFT
      have P1 := Lib.hid ((put_any w.heap.size w.heap.size x.f0 hh (wr.alloc (.cells #[.string x.f0, .string x.f1] 67)) ((World.cell?_alloc_past _ _ _ hb.out.2).trans hc1) ((World.frozen?_alloc_past _ _ _ hb.out.2).trans hf1) (Nat.le_refl _) hs0).mono (R' := fun e w' => e = .returned (.tuple #[]) ∧ w'.cell? ⟨w.heap.size, 0, none⟩ = some (.int .u64 (hput hh x.f0)) ∧ w'.frozen? ⟨w.heap.size, 0, none⟩ = false ∧ w'.cell? ⟨wr.heap.size, 1, none⟩ = some (.string x.f1) ∧ Hid (Below w.heap.size wr w' ∧ wr.heap.size < w'.heap.size))
          (fun e' w' ⟨h1, h2, h3, h4, h5⟩ => ⟨h1, h2, h3, (World.cell?_of_block (a := ⟨wr.heap.size, 1, none⟩) (h5 wr.heap.size (by have := hb.out.2; omega))).trans (cellE (heap_alloc_new wr _) 1 rfl), ((Below.refl _ wr).alloc (Nat.le_of_lt hb.out.2) _).trans h4, by have := h4.size; simp at this; omega⟩))
      have P2 := Lib.hid (fun (W : World) (a : W.cell? ⟨w.heap.size, 0, none⟩ = some (.int .u64 (hput hh x.f0))) (b : W.frozen? ⟨w.heap.size, 0, none⟩ = false) => put_any w.heap.size w.heap.size x.f1 (hput hh x.f0) W a b (Nat.le_refl _) hs1)
      have hnw : ¬ w.heap.size = wr.heap.size := by have := hb.out.2; omega
      go_wp2_with (first | (go_at_call 102; first | (with_reducible refine P1.out.mono ?_; rintro e w' ⟨rfl, q1, q2, q3, q4⟩) | (with_reducible refine (P2.out _ (by assumption) (by assumption)).mono ?_; rintro e w'' ⟨rfl, q5, q6, q7, q8⟩; have Q7 := Lib.hid q7; clear q7 q8)))
      go_roundw
      case rel => exact ⟨k + 1, by omega, by go_num, by rw [HFT.out]; exact q5, q6, (hb.out.1.trans q4.out.1).trans Q7.out, by have := Q7.out.size; have := q4.out.2; have := hb.out.2; omega⟩
      case measure => simp [intOf]; omega
    · have hke : k = n := by omega
      subst hke
      have hltz : ¬ (k : Int) < (k : Int) := by omega
      rw [List.take_of_length_le (by rw [HN.out]; exact Nat.le_refl _), HR.out] at hc1
      go_wp2
      go_ret
      exact ⟨rfl, hb.out.1⟩
end Go.Proofs.YtfkgbklkjnhipaaGreatDoor.P
