/- strings.Replacer over single bytes (labels.quoted): the parts. -/
import Derived.Test.YtfkgbklkjnhipaaGreatDoorGa
import Derived.Laws.Rows
import Derived.Laws.Tables
import Derived.Lib.Hide
import Derived.Laws.Cover3
namespace Go.Proofs.YtfkgbklkjnhipaaGreatDoor.P
open Go.RowKit Go.Proofs.YtfkgbklkjnhipaaGreatDoorW.PrintWords Go.Proofs.YtfkgbklkjnhipaaGreatDoorW.PrintLast Go.Proofs.YtfkgbklkjnhipaaGreatDoorW.PrintMore
set_option linter.unusedVariables false
set_option linter.unusedSimpArgs false

/-- No byte that is written otherwise. -/
def plainB (c : Int) : Bool := !(c == 10) && !(c == 34) && !(c == 92)
theorem cellE {w : World} {g : Nat} {c : Array Value} {t : TypeId} {fr : Nat × Nat} (h : w.heap[g]? = some (.cells c t fr)) (j : Nat) {v : Value} (hv : c[j]? = some v) : w.cell? ⟨g, j, none⟩ = some v := by
  rw [Go.cell_of_row _ _ j c t fr h]; exact hv

/-- Is a slice nil? -/
theorem wpList_nilTest {P : Program} {ops : Array Oper} {rest : List Oper} {o : Oper} {a : Act} {w : World} {Q : Exit → Act → World → Prop} (hg : o.guard = none) (e : Bool) (x : Operand) (T T' el : TypeId)
    (ho : o.op = .binOp (if e then .eql else .neq) T x (.const (.slice none 0 0)) T') (hu : P.underlying T = some (.slice el)) (p : Option Addr) (l c : Nat) (hx : a.eval x = .slice p l c) (v : Bool) (hv : (if e then p.isNone else !p.isNone) = v)
    (h : wpList P ops Q rest (a.put o.dst (.bool v)) w) : wpList P ops Q (o :: rest) a w := by
  refine wpList_plain hg fun K hK => ?_
  subst hv
  have hc : a.eval (.const (.slice none 0 0)) = .slice none 0 0 := rfl
  unfold Oper.wp execOp
  have h0 := run_equal_slice_nil (P := P) w T el p l c hu
  cases e <;> simp only [ho, hx, hc, if_true, Bool.false_eq_true, if_false] <;> simp [eqGuard, binOp, h0, Result.andThen, Oper.upon] <;> exact hK _ _ (by simpa using h)

set_option maxRecDepth 100000 in
set_option maxHeartbeats 1000000 in
theorem replace_plain (s : ByteArray) (gE : Nat) (gD : Option Addr) (c : Array Value) (t : TypeId) (fr : Nat × Nat) (w : World) (hE : w.heap[gE]? = some (.cells c t fr)) (h256 : c[256]? = some (.slice gD 3 3))
    (hn : ∀ b : Int, 0 ≤ b → b ≤ 255 → plainB b = true → c[b.toNat]? = some (.slice none 0 0)) (hs : s.size < 24) (hp : ∀ k : Nat, k < s.size → plainB (bt s k) = true) :
    Calls Tryz.prog 251 #[.pointer (some ⟨gE, 0, none⟩), .string s] w fun e w' => e = .returned (.string s) ∧ w = w' := by
  have c256 := cellE hE 256 h256
  have HN := Lib.hid (fun b h0 h1 h2 => cellE hE (Int.toNat b) (hn b h0 h1 h2))
  have HP := Lib.hid hp
  clear hn hp hE h256
  have hlt : ¬ (24 : Int) ≤ (s.size : Int) := by omega
  go_enter Tryz.func251, Tryz.ntmps251
  go_wp2
  go_loop [5, 6, 10] (fun a b i => ∃ k : Nat, k ≤ s.size ∧ i = .int .i64 k ∧ a = .int .i64 (s.size : Int) ∧ b = .bool false) (fun _ _ i => s.size - (intOf i).toNat)
  case atStart => exact ⟨0, Nat.zero_le _, rfl, rfl, rfl⟩
  case round =>
    obtain ⟨k, hk, rfl, rfl, rfl⟩ := hrel
    by_cases hlt : k < s.size
    · have hltz : (k : Int) < (s.size : Int) := by omega
      have HR := bt_range s k
      have hc : w.cell? ⟨gE, (s[k]'hlt).toNat, none⟩ = some (.slice none 0 0) := by
        have h1 := HN.out (bt s k) HR.1 HR.2 (HP.out k hlt)
        have h2 := bt_get s k hlt
        rw [← h2] at h1
        exact h1
      clear HR
      have h256 : (((s[k]'hlt).toNat : Nat) : Int) < 256 := by have := (s[k]'hlt).toNat_lt; omega
      go_wp2_with (refine wpList_nilTest rfl false (.tmp 69) 68 68 5 rfl Tryz.underlying68 none 0 0 rfl false rfl ?_)
      go_round
      case rel => exact ⟨k + 1, by omega, by go_num, rfl, rfl⟩
      case measure => simp [intOf]; omega
    · have hltz : ¬ (k : Int) < (s.size : Int) := by omega
      go_wp2
      go_ret
      exact ⟨rfl, rfl⟩
end Go.Proofs.YtfkgbklkjnhipaaGreatDoor.P
