/- Contracts of leaves (labels.named), in the printer's form. -/
import Derived.Test.YtfkgbklkjnhipaaGreatDoorPx0
import Derived.WalkSpells
import Derived.Lib.Hide
import Derived.Laws.Strings
namespace Go.Proofs.YtfkgbklkjnhipaaGreatDoor.P
open Go.RowKit Go.Proofs.YtfkgbklkjnhipaaGreatDoorW.PrintWords Go.Proofs.YtfkgbklkjnhipaaGreatDoorW.PrintLast Go.Proofs.YtfkgbklkjnhipaaGreatDoorW.PrintMore
set_option linter.unusedVariables false
set_option linter.unusedSimpArgs false

def digitB (c : Int) : Bool := decide (48 ≤ c) && decide (c ≤ 57)
def letterB (c : Int) : Bool := decide (97 ≤ c) && decide (c ≤ 122) || decide (65 ≤ c) && decide (c ≤ 90) || c == 95

theorem digit_any (c : Int) (w : World) :
    Calls Tryz.prog 133 #[.int .u8 c] w fun e w' => e = .returned (.bool (digitB c)) ∧ w = w' := by
  unfold digitB
  by_cases h1 : 48 ≤ c
  · by_cases h2 : c ≤ 57
    · go_enter Tryz.func133, Tryz.ntmps133
      go_wp2
      go_ret
      exact ⟨by simp [h1, h2], rfl⟩
    · go_enter Tryz.func133, Tryz.ntmps133
      go_wp2
      go_ret
      exact ⟨by simp [h1, h2]; try omega, rfl⟩
  · go_enter Tryz.func133, Tryz.ntmps133
    go_wp2
    go_ret
    exact ⟨by simp [h1]; try omega, rfl⟩
theorem letter_any (c : Int) (w : World) :
    Calls Tryz.prog 134 #[.int .u8 c] w fun e w' => e = .returned (.bool (letterB c)) ∧ w = w' := by
  unfold letterB
  by_cases h1 : 97 ≤ c <;> by_cases h2 : c ≤ 122 <;> by_cases h3 : 65 ≤ c <;> by_cases h4 : c ≤ 90 <;> try (exfalso; omega)
  all_goals
    go_enter Tryz.func134, Tryz.ntmps134
    go_wp2
    go_ret
    exact ⟨by simp [h1, h2, h3, h4]; try omega, rfl⟩

theorem toList_len (s : ByteArray) : s.toList.length = s.size := by rw [Go.ByteArray.toList_eq, data_length]
theorem toList_ne (s : ByteArray) (h : 0 < s.size) : s.toList.isEmpty = false := by
  have := toList_len s
  cases e : s.toList with
  | nil => rw [e] at this; simp at this; omega
  | cons a b => rfl
theorem toList_nil (s : ByteArray) (h : s.size = 0) : s.toList = [] := List.eq_nil_of_length_eq_zero (by rw [toList_len]; exact h)

theorem bt_get (s : ByteArray) (k : Nat) (h : k < s.size) : (((s.data.toList)[k]'(by rw [data_length]; exact h)).toNat : Int) = bt s k := by
  have := bt_at s k (by simpa using h)
  rw [← this]; rfl
theorem take_all_step (s : ByteArray) (k : Nat) (h : k < s.size) (p : Int → Bool) : ((s.data.toList.take (k + 1)).all fun c => p (c.toNat : Int)) = (((s.data.toList.take k).all fun c => p (c.toNat : Int)) && p (bt s k)) := by
  rw [List.take_succ_eq_append_getElem (by rw [data_length]; exact h), List.all_append]
  simp only [List.all_cons, List.all_nil, Bool.and_true]
  rw [bt_get s k h]
theorem all_false_of (s : ByteArray) (k : Nat) (h : k < s.size) (p : Int → Bool) (hp : p (bt s k) = false) : (s.data.toList.all fun c => p (c.toNat : Int)) = false := by
  rw [List.all_eq_false]
  exact ⟨(s.data.toList)[k]'(by rw [data_length]; exact h), List.getElem_mem _, by rw [bt_get s k h]; simp [hp]⟩

theorem bytesWorld_below (w : World) (e : TypeId) (s : ByteArray) : Below w.heap.size w (Lib.bytesWorld w e s) := ⟨rfl, rfl, rfl, by rw [Lib.bytesWorld_size]; omega, fun i hi => Lib.bytesWorld_at_old w e s i hi⟩

/-- labels.named -/
def okB (colon : Bool) (c : Int) : Bool := letterB c || digitB c || (colon && c == 58)
def namedB (s : ByteArray) (most : Int) (colon : Bool) : Bool :=
  !(s.toList.isEmpty) && !decide (most < (s.size : Int)) && !digitB (bt s 0) && s.data.toList.all fun c => okB colon (c.toNat : Int)
def labels_named.f (a0 : ByteArray) (a1 : Int) (a2 : Bool) : Option Bool := if a1 ≤ 9223372036854775807 then some (namedB a0 a1 a2) else none

set_option maxHeartbeats 1000000 in
theorem named_loop (s : ByteArray) (most : Int) (colon : Bool) (w w1 : World) (cap : Nat) (h0 : 0 < s.size) (hs : s.size ≤ 9223372036854775807) (hm : ¬ most < (s.size : Int)) (hd : digitB (bt s 0) = false)
    (hcv : (convert 9 68 (.string s)).run Tryz.prog w = .ok (.slice (some ⟨w.heap.size, 0, none⟩) s.size cap) w1) (hb : Below w.heap.size w w1)
    (hc : ∀ j, j < s.size → w1.cell? ⟨w.heap.size, j, none⟩ = some (.int .u8 (bt s j))) (r : Bool) (hr : Hid (r = (s.data.toList.all fun c => okB colon (c.toNat : Int)))) :
    Calls Tryz.prog 75 #[.string s, .int .i64 most, .bool colon] w fun e w' => e = .returned (.bool r) ∧ Below w.heap.size w w' := by
  have e0 : s.toList.isEmpty = false := toList_ne s h0
  have hm' : decide (most < (s.size : Int)) = false := by simpa using hm
  have hdb : digitB (((s[0]'h0).toNat : Int)) = false := by have := bt_at s 0 h0; simp at this; rw [this]; exact hd
  have hall := Lib.hid (show ∀ k, k ≤ s.size → ((s.data.toList.take k).all fun c => okB colon (c.toNat : Int)) = true → k = s.size → (s.data.toList.all fun c => okB colon (c.toNat : Int)) = true from fun k hk h e => by subst e; rw [List.take_of_length_le (by simp)] at h; exact h)
  have HC := Lib.hid hc
  clear hc
  go_enter Tryz.func75, Tryz.ntmps75
  go_wp2_with (go_at_call 133; refine (digit_any _ _).mono ?_; rintro e w' ⟨rfl, rfl⟩)
  go_loop [25] (fun i => ∃ k : Nat, k ≤ s.size ∧ i = .int .i64 k ∧ Hid (((s.data.toList.take k).all fun c => okB colon (c.toNat : Int)) = true)) (fun i => s.size - (intOf i).toNat)
  case atStart => exact ⟨0, Nat.zero_le _, rfl, by show _ = _; simp⟩
  case round =>
    obtain ⟨k, hk, rfl, HA⟩ := hrel
    by_cases hlt : k < s.size
    · have hltz : (k : Int) < (s.size : Int) := by omega
      have c1 := HC.out k hlt
      have HR := bt_range s k
      have hstep := Lib.hid (take_all_step s k hlt (fun c => okB colon c))
      have hfalse := Lib.hid (all_false_of s k hlt (fun c => okB colon c))
      have HOK := Lib.hid (show ∀ a b d, letterB (bt s k) = a → digitB (bt s k) = b → (bt s k == 58) = d → okB colon (bt s k) = (a || b || (colon && d)) from fun a b d h1 h2 h3 => by unfold okB; rw [h1, h2, h3])
      cases hl : letterB (bt s k) <;> cases hdg : digitB (bt s k) <;> cases colon <;> cases h58 : (bt s k == 58)
      all_goals
        have hok := Lib.hid (HOK.out _ _ _ hl hdg h58)
        clear HOK
        go_wp2_with (first | (go_at_call 133; refine (digit_any _ _).mono ?_; rintro e w' ⟨rfl, rfl⟩) | (go_at_call 134; refine (letter_any _ _).mono ?_; rintro e w' ⟨rfl, rfl⟩))
        first
        | (go_ret
           refine ⟨?_, hb⟩
           have : r = false := hr.out.trans (hfalse.out (by rw [hok.out]; rfl))
           rw [this]; rfl)
        | (go_round
           case rel => exact ⟨k + 1, by omega, by go_num, by show _ = _; rw [hstep.out, HA.out, hok.out]; rfl⟩
           case measure => simp [intOf]; omega)
    · have hltz : ¬ (k : Int) < (s.size : Int) := by omega
      go_wp2
      go_ret
      exact ⟨by rw [show r = true from hr.out.trans (hall.out k hk HA.out (by omega))]; rfl, hb⟩

set_option maxHeartbeats 1000000 in
theorem labels_named.calls (a0 : ByteArray) (a1 : Int) (a2 : Bool) (r : Bool) (w : World) (h : labels_named.f a0 a1 a2 = some r) :
    Calls Tryz.prog 75 #[.string a0, .int .i64 a1, .bool a2] w fun e w' => e = .returned (.bool r) ∧ Below w.heap.size w w' := by
  have hmax : a1 ≤ 9223372036854775807 := by
    apply Classical.byContradiction
    intro hn
    simp [labels_named.f, hn] at h
  have hr : namedB a0 a1 a2 = r := by simpa [labels_named.f, hmax] using h
  clear h
  by_cases h0 : 0 < a0.size
  · have e0 : a0.toList.isEmpty = false := toList_ne a0 h0
    by_cases hm : a1 < (a0.size : Int)
    · have hm' : decide (a1 < (a0.size : Int)) = true := decide_eq_true hm
      obtain rfl : r = false := by rw [← hr]; simp [namedB, hm]
      clear hr
      go_enter Tryz.func75, Tryz.ntmps75
      go_wp2
      go_ret
      exact ⟨rfl, Below.refl _ _⟩
    · have hm' : decide (a1 < (a0.size : Int)) = false := decide_eq_false hm
      have hbt : ((a0[0]'h0).toNat : Int) = bt a0 0 := by have := bt_at a0 0 (by simpa using h0); simpa using this
      cases hd : digitB (bt a0 0)
      · refine named_loop a0 a1 a2 w (Lib.bytesWorld w 5 a0) _ h0 (by omega) hm hd (Lib.run_convert_string_bytes w 9 68 5 a0 Tryz.underlying9 Tryz.underlying68 Tryz.underlying5) (bytesWorld_below w _ a0) (fun j hj => (Lib.bytesWorld_cell w _ a0 j hj).trans ?_) r ?_
        · have := bt_get a0 j hj
          rw [← this]
          simp [List.getD, List.getElem?_eq_getElem (show j < a0.data.toList.length by rw [data_length]; exact hj)]
        · have hne : a0.toList.isEmpty = false := e0
          rw [← hr]
          show _ = _
          simp only [namedB, hne, hm', hd, Bool.not_false, Bool.true_and]
      · obtain rfl : r = false := by rw [← hr]; simp [namedB, hd]
        have hd' : digitB ((a0[0]'h0).toNat : Int) = true := by rw [hbt]; exact hd
        clear hr hbt
        go_enter Tryz.func75, Tryz.ntmps75
        go_wp2_with (go_at_call 133; refine (digit_any _ _).mono ?_; rintro e w' ⟨rfl, rfl⟩)
        go_ret
        exact ⟨rfl, Below.refl _ _⟩
  · have hz : a0.size = 0 := by omega
    have hn := toList_nil a0 hz
    obtain rfl : r = false := by rw [← hr]; simp [namedB, hn]
    have e0 : a0.toList.isEmpty = true := by rw [hn]; rfl
    clear hr hn hz h0
    go_enter Tryz.func75, Tryz.ntmps75
    go_wp2
    go_ret
    exact ⟨rfl, Below.refl _ _⟩
end Go.Proofs.YtfkgbklkjnhipaaGreatDoor.P
