/- Plain laws of the order of label sets: no program in sight but the printed functions. -/
import Derived.Test.YtfkgbklkjnhipaaGreatDoorPx17
namespace Go.Proofs.YtfkgbklkjnhipaaGreatDoor.P
open Go.RowKit Go.Proofs.YtfkgbklkjnhipaaGreatDoorW.PrintWords Go.Proofs.YtfkgbklkjnhipaaGreatDoorW.PrintLast Go.Proofs.YtfkgbklkjnhipaaGreatDoorW.PrintMore
set_option linter.unusedVariables false
set_option linter.unusedSimpArgs false

/-! ### texts -/
theorem less_irrefl : ∀ a : List UInt8, Op.bytesLess a a = false
  | [] => rfl
  | a :: x => by
    have ih := less_irrefl x
    have h : ¬ a < a := fun h => by have := UInt8.lt_iff_toNat_lt.1 h; omega
    simp [Op.bytesLess, h, ih]
theorem less_cons (a b : UInt8) (x y : List UInt8) : Op.bytesLess (a :: x) (b :: y) = true ↔ a.toNat < b.toNat ∨ a = b ∧ Op.bytesLess x y = true := by
  simp [Op.bytesLess, UInt8.lt_iff_toNat_lt]
theorem less_trans : ∀ a b c : List UInt8, Op.bytesLess a b = true → Op.bytesLess b c = true → Op.bytesLess a c = true
  | [], [], c, h, _ => by simp [Op.bytesLess] at h
  | [], b :: y, [], _, h => by simp [Op.bytesLess] at h
  | [], b :: y, c :: z, _, _ => by simp [Op.bytesLess]
  | a :: x, [], c, h, _ => by simp [Op.bytesLess] at h
  | a :: x, b :: y, [], _, h => by simp [Op.bytesLess] at h
  | a :: x, b :: y, c :: z, h1, h2 => by
    rw [less_cons] at h1 h2 ⊢
    rcases h1 with h1 | ⟨rfl, h1⟩
    · rcases h2 with h2 | ⟨rfl, h2⟩
      · exact .inl (by omega)
      · exact .inl h1
    · rcases h2 with h2 | ⟨rfl, h2⟩
      · exact .inl h2
      · exact .inr ⟨rfl, less_trans x y z h1 h2⟩
theorem less_asymm (a b : List UInt8) (h : Op.bytesLess a b = true) : Op.bytesLess b a = false := by
  cases e : Op.bytesLess b a with
  | false => rfl
  | true => have := less_trans a b a h e; rw [less_irrefl] at this; cases this
theorem less_eq (a b : List UInt8) (h1 : Op.bytesLess a b = false) (h2 : Op.bytesLess b a = false) : a = b := by
  have h := bytesLess_total a b
  rw [h1, h2] at h
  simpa using h
theorem side_zero (a b : ByteArray) : sideB a b = 0 ↔ a.toList = b.toList := by
  unfold sideB
  constructor
  · intro h
    cases h1 : Op.bytesLess a.toList b.toList <;> cases h2 : Op.bytesLess b.toList a.toList <;> simp [h1, h2] at h
    exact less_eq _ _ h1 h2
  · intro h
    rw [h, less_irrefl]; simp
theorem side_neg (a b : ByteArray) : sideB b a = - sideB a b := by
  unfold sideB
  cases h1 : Op.bytesLess a.toList b.toList <;> cases h2 : Op.bytesLess b.toList a.toList <;> simp
  have := less_asymm _ _ h1
  rw [h2] at this; cases this
theorem side_range (a b : ByteArray) : sideB a b = -1 ∨ sideB a b = 0 ∨ sideB a b = 1 := by
  unfold sideB
  split
  · exact .inl rfl
  · split
    · exact .inr (.inr rfl)
    · exact .inr (.inl rfl)
theorem side_less (a b : ByteArray) : sideB a b = -1 ↔ Op.bytesLess a.toList b.toList = true := by
  unfold sideB
  constructor
  · intro h
    by_cases h1 : Op.bytesLess a.toList b.toList = true
    · exact h1
    · rw [if_neg h1] at h
      split at h <;> simp at h
  · intro h; rw [if_pos h]
theorem side_left {a b c : ByteArray} (h : sideB a b = 0) : sideB a c = sideB b c := by
  rw [side_zero] at h
  unfold sideB
  rw [h]
theorem side_right {a b c : ByteArray} (h : sideB b c = 0) : sideB a b = sideB a c := by
  rw [side_zero] at h
  unfold sideB
  rw [h]
theorem side_trans {a b c : ByteArray} (h1 : sideB a b = -1) (h2 : sideB b c = -1) : sideB a c = -1 := by
  rw [side_less] at *
  exact less_trans _ _ _ h1 h2

/-! ### label sets -/
def lc : List S67 → List S67 → Int
  | [], [] => 0
  | [], _ :: _ => -1
  | _ :: _, [] => 1
  | x :: xs, y :: ys => if sideB x.f0 y.f0 ≠ 0 then sideB x.f0 y.f0 else if sideB x.f1 y.f1 ≠ 0 then sideB x.f1 y.f1 else lc xs ys
theorem lc_range : ∀ a b, lc a b = -1 ∨ lc a b = 0 ∨ lc a b = 1
  | [], [] => .inr (.inl rfl)
  | [], _ :: _ => .inl rfl
  | _ :: _, [] => .inr (.inr rfl)
  | x :: xs, y :: ys => by
    unfold lc
    split
    · exact side_range _ _
    · split
      · exact side_range _ _
      · exact lc_range xs ys
theorem lc_neg : ∀ a b, lc b a = - lc a b
  | [], [] => rfl
  | [], _ :: _ => rfl
  | _ :: _, [] => rfl
  | x :: xs, y :: ys => by
    unfold lc
    rw [side_neg x.f0 y.f0, side_neg x.f1 y.f1, lc_neg xs ys]
    by_cases h1 : sideB x.f0 y.f0 = 0 <;> by_cases h2 : sideB x.f1 y.f1 = 0 <;> simp [h1, h2]
theorem lc_trans : ∀ a b c, lc a b ≤ 0 → lc b c ≤ 0 → lc a c ≤ 0 ∧ (lc a b < 0 → lc a c < 0)
  | [], [], [], _, _ => by simp [lc]
  | [], [], _ :: _, _, _ => by simp [lc]
  | [], _ :: _, [], _, h => by simp [lc] at h
  | [], _ :: _, _ :: _, _, _ => by simp [lc]
  | _ :: _, [], _, h, _ => by simp [lc] at h
  | _ :: _, _ :: _, [], _, h => by simp [lc] at h
  | x :: xs, y :: ys, z :: zs, h1, h2 => by
    have ih := lc_trans xs ys zs
    unfold lc at h1 h2 ⊢
    rcases side_range x.f0 y.f0 with a | a | a
    · rcases side_range y.f0 z.f0 with b | b | b
      · rw [side_trans a b]; simp [a]
      · rw [← side_right b, a]; simp
      · simp [b] at h2
    · rw [side_left a]
      rcases side_range y.f0 z.f0 with b | b | b
      · simp [b]
      · simp only [a, b, ne_eq, not_true_eq_false, if_false] at h1 h2 ⊢
        rcases side_range x.f1 y.f1 with c | c | c
        · rcases side_range y.f1 z.f1 with d | d | d
          · rw [side_trans c d]; simp [c]
          · rw [← side_right d, c]; simp
          · simp [d] at h2
        · rw [side_left c]
          rcases side_range y.f1 z.f1 with d | d | d
          · simp [d]
          · simp only [c, d, ne_eq, not_true_eq_false, if_false] at h1 h2 ⊢
            exact ih h1 h2
          · simp [d] at h2
        · simp [c] at h1
      · simp [b] at h2
    · simp [a] at h1

/-! ### the printed functions -/
theorem w64 {n : Int} (h0 : -9223372036854775808 ≤ n) (h1 : n ≤ 9223372036854775807) : wrap64 n = n := by unfold wrap64; omega
theorem rd_get {l : List S67} {i : Nat} (h : i < l.length) : rd_T67 l (i : Int) = l[i] := by simp [rd_T67, List.getD, List.getElem?_eq_getElem h]
theorem compare1 (x y : S67) : labels_Compare_1.f x.f0 x.f1 y.f0 y.f1 = some (if sideB x.f0 y.f0 ≠ 0 then sideB x.f0 y.f0 else sideB x.f1 y.f1) := by
  unfold labels_Compare_1.f strings_Compare.f
  simp only [Option.bind_some]
  by_cases h : sideB x.f0 y.f0 = 0
  · rw [if_pos h, if_neg (by simpa using h)]
  · rw [if_neg h, if_pos h]
theorem compare_loop (a b : List S67) (ha : a.length ≤ 4611686018427387904) (d : Nat) : ∀ (k i : Nat), i + d = a.length → i ≤ b.length → d < k →
    api_Label_98.l0 k a b a (a.length : Int) (i : Int) = some (lc (a.drop i) (b.drop i)) := by
  induction d with
  | zero =>
    intro k i hi hb hk
    obtain ⟨k, rfl⟩ : ∃ m, k = m + 1 := ⟨k - 1, by omega⟩
    unfold api_Label_98.l0
    rw [if_neg (by omega), List.drop_eq_nil_of_le (by omega : a.length ≤ i)]
    by_cases h : (a.length : Int) < (b.length : Int)
    · rw [if_pos h]
      cases e : b.drop i with
      | nil => have := congrArg List.length e; simp at this; omega
      | cons y ys => rfl
    · rw [if_neg h, List.drop_eq_nil_of_le (by omega : b.length ≤ i)]; rfl
  | succ d ih =>
    intro k i hi hb hk
    obtain ⟨k, rfl⟩ : ∃ m, k = m + 1 := ⟨k - 1, by omega⟩
    unfold api_Label_98.l0
    have hia : i < a.length := by omega
    rw [if_pos (by omega), if_pos (by omega), if_pos (by omega), List.drop_eq_getElem_cons hia]
    by_cases h : (i : Int) ≥ (b.length : Int)
    · rw [if_pos h, List.drop_eq_nil_of_le (by omega : b.length ≤ i)]; rfl
    · have hib : i < b.length := by omega
      rw [if_neg h, if_pos (by omega), rd_get hia, rd_get hib, compare1, List.drop_eq_getElem_cons hib]
      simp only [Option.bind_some]
      unfold lc
      by_cases h1 : sideB a[i].f0 b[i].f0 = 0
      · simp only [h1, ne_eq, not_true_eq_false, if_false]
        by_cases h2 : sideB a[i].f1 b[i].f1 = 0
        · rw [if_pos h2, if_neg (by simpa using h2), show wrap64 ((i : Int) + 1) = ((i + 1 : Nat) : Int) from by rw [w64 (by omega) (by omega)]; simp]
          exact ih k (i + 1) (by omega) (by omega) (by omega)
        · rw [if_neg h2, if_pos h2]
      · simp only [h1, ne_eq, not_false_eq_true, if_true, if_false]
theorem compare_is (a b : List S67) (ha : a.length ≤ 4611686018427387904) (k : Nat) (hk : a.length < k) : labels_Compare.f k a b = some (lc a b) := by
  unfold labels_Compare.f api_Label_98.f
  have := compare_loop a b ha a.length k 0 (by omega) (by omega) hk
  simp only [List.drop_zero] at this
  rw [show (0 : Int) = ((0 : Nat) : Int) from rfl, this]; rfl
theorem refside_is (a b : ByteArray) : tocsinref04_side.f a b = some (sideB a b) := by
  unfold tocsinref04_side.f sideB
  split
  · rfl
  · split <;> rfl
theorem refcompare_loop (a b : List S67) (ha : a.length ≤ 4611686018427387904) (d : Nat) : ∀ (k i : Nat), i + d = a.length → i ≤ b.length → 2 * d + 1 < k →
    tocsinref04_Compare.l0 k a b (i : Int) = some (lc (a.drop i) (b.drop i)) := by
  induction d with
  | zero =>
    intro k i hi hb hk
    obtain ⟨k, rfl⟩ : ∃ m, k = m + 2 := ⟨k - 2, by omega⟩
    unfold tocsinref04_Compare.l0
    rw [if_neg (by omega), List.drop_eq_nil_of_le (by omega : a.length ≤ i)]
    unfold tocsinref04_Compare.j1
    rw [if_neg (by decide)]
    by_cases h : (a.length : Int) < (b.length : Int)
    · rw [if_pos h]
      cases e : b.drop i with
      | nil => have := congrArg List.length e; simp at this; omega
      | cons y ys => rfl
    · rw [if_neg h, if_neg (by omega), List.drop_eq_nil_of_le (by omega : b.length ≤ i)]; rfl
  | succ d ih =>
    intro k i hi hb hk
    obtain ⟨k, rfl⟩ : ∃ m, k = m + 2 := ⟨k - 2, by omega⟩
    have hia : i < a.length := by omega
    unfold tocsinref04_Compare.l0
    rw [if_pos (by omega), List.drop_eq_getElem_cons hia]
    unfold tocsinref04_Compare.j1
    by_cases h : i < b.length
    · rw [decide_eq_true (by omega : (i : Int) < (b.length : Int)), if_pos rfl, if_pos (by omega), if_pos (by omega), if_pos (by omega), rd_get hia, rd_get h, refside_is, refside_is, List.drop_eq_getElem_cons h]
      simp only [Option.bind_some]
      unfold lc
      by_cases h1 : sideB a[i].f0 b[i].f0 = 0
      · by_cases h2 : sideB a[i].f1 b[i].f1 = 0
        · rw [if_pos h1, if_pos h2, if_neg (by simpa using h1), if_neg (by simpa using h2), show wrap64 ((i : Int) + 1) = ((i + 1 : Nat) : Int) from by rw [w64 (by omega) (by omega)]; simp]
          exact ih k (i + 1) (by omega) (by omega) (by omega)
        · rw [if_pos h1, if_neg h2, if_neg (by simpa using h1), if_pos h2]
      · rw [if_neg h1, if_pos h1]
    · rw [decide_eq_false (by omega : ¬ (i : Int) < (b.length : Int)), if_neg (by decide), if_neg (by omega), if_pos (by omega), List.drop_eq_nil_of_le (by omega : b.length ≤ i)]; rfl
theorem refcompare_is (a b : List S67) (ha : a.length ≤ 4611686018427387904) (k : Nat) (hk : 2 * a.length + 1 < k) : tocsinref04_Compare.f k a b = some (lc a b) := by
  unfold tocsinref04_Compare.f
  have := refcompare_loop a b ha a.length k 0 (by omega) (by omega) hk
  simpa using this
theorem lc_len : ∀ a b, lc a b = 0 → a.length = b.length
  | [], [], _ => rfl
  | [], _ :: _, h => by simp [lc] at h
  | _ :: _, [], h => by simp [lc] at h
  | x :: xs, y :: ys, h => by
    unfold lc at h
    by_cases h1 : sideB x.f0 y.f0 = 0
    · by_cases h2 : sideB x.f1 y.f1 = 0
      · rw [if_neg (by simpa using h1), if_neg (by simpa using h2)] at h
        simp [lc_len xs ys h]
      · rw [if_neg (by simpa using h1), if_pos h2] at h; exact absurd h h2
    · rw [if_pos h1] at h; exact absurd h h1
theorem same_loop (a b : List S67) (ha : a.length ≤ 4611686018427387904) (hl : a.length = b.length) (d : Nat) : ∀ (k i : Nat), i + d = a.length → d < k →
    tocsinlaw04_same.l0 k a b (a.length : Int) (i : Int) = some (decide (lc (a.drop i) (b.drop i) = 0)) := by
  induction d with
  | zero =>
    intro k i hi hk
    obtain ⟨k, rfl⟩ : ∃ m, k = m + 1 := ⟨k - 1, by omega⟩
    unfold tocsinlaw04_same.l0
    rw [if_neg (by omega), List.drop_eq_nil_of_le (by omega : a.length ≤ i), List.drop_eq_nil_of_le (by omega : b.length ≤ i)]; rfl
  | succ d ih =>
    intro k i hi hk
    obtain ⟨k, rfl⟩ : ∃ m, k = m + 1 := ⟨k - 1, by omega⟩
    have hia : i < a.length := by omega
    have hib : i < b.length := by omega
    unfold tocsinlaw04_same.l0
    rw [if_pos (by omega), if_pos (by omega), if_pos (by omega), if_pos (by omega), rd_get hia, rd_get hib, List.drop_eq_getElem_cons hia, List.drop_eq_getElem_cons hib]
    unfold lc
    by_cases h1 : sideB a[i].f0 b[i].f0 = 0
    · have q1 := (side_zero _ _).1 h1
      by_cases h2 : sideB a[i].f1 b[i].f1 = 0
      · have q2 := (side_zero _ _).1 h2
        rw [if_neg (by rw [q1, q2]; simp), if_neg (by simpa using h1), if_neg (by simpa using h2), show wrap64 ((i : Int) + 1) = ((i + 1 : Nat) : Int) from by rw [w64 (by omega) (by omega)]; simp]
        exact ih k (i + 1) (by omega) (by omega)
      · have q2 : ¬ a[i].f1.toList = b[i].f1.toList := fun e => h2 ((side_zero _ _).2 e)
        rw [if_pos (by simp [q2]), if_neg (by simpa using h1), if_pos h2, decide_eq_false h2]
    · have q1 : ¬ a[i].f0.toList = b[i].f0.toList := fun e => h1 ((side_zero _ _).2 e)
      rw [if_pos (by simp [q1]), if_pos h1, decide_eq_false h1]
theorem same_is (a b : List S67) (ha : a.length ≤ 4611686018427387904) (k : Nat) (hk : a.length < k) : tocsinlaw04_same.f k a b = some (decide (lc a b = 0)) := by
  unfold tocsinlaw04_same.f
  by_cases hl : a.length = b.length
  · rw [if_pos (by omega)]
    have := same_loop a b ha hl a.length k 0 (by omega) hk
    simpa using this
  · rw [if_neg (by omega), decide_eq_false (fun h => hl (lc_len a b h))]
/-! ### hashes -/
theorem size_one (c : UInt8) : (⟨#[c]⟩ : ByteArray).size = 1 := rfl
theorem bt_list (s : ByteArray) (i : Nat) : bt s (i : Int) = ((s.data.toList.map fun c : UInt8 => (c.toNat : Int))[i]?).getD 0 := by
  unfold bt
  by_cases h : i < s.size
  · rw [dif_pos (by simpa using h)]
    rw [List.getElem?_map, List.getElem?_eq_getElem (by rw [data_length]; exact h)]
    rfl
  · rw [dif_neg (by simpa using h)]
    rw [List.getElem?_map, List.getElem?_eq_none (by rw [data_length]; omega)]
    rfl
theorem append_list (a b : ByteArray) : (a ++ b).data.toList = a.data.toList ++ b.data.toList := by simp
theorem bt_left (a b : ByteArray) (i : Nat) (h : i < a.size) : bt (a ++ b) i = bt a i := by
  rw [bt_list, bt_list, append_list, List.map_append, List.getElem?_append_left (by rw [List.length_map, data_length]; exact h)]
theorem bt_right (a b : ByteArray) (i : Nat) : bt (a ++ b) ((a.size + i : Nat) : Int) = bt b i := by
  rw [bt_list, bt_list, append_list, List.map_append, List.getElem?_append_right (by rw [List.length_map, data_length]; omega), List.length_map, data_length, Nat.add_sub_cancel_left]
theorem hfold_left (a b : ByteArray) (h : Int) : ∀ k, k ≤ a.size → hfold (a ++ b) k h = hfold a k h
  | 0, _ => rfl
  | k + 1, hk => by
    unfold hfold
    rw [hfold_left a b h k (by omega), bt_left a b k (by omega)]
theorem hfold_right (a b : ByteArray) (h : Int) : ∀ k, hfold (a ++ b) (a.size + k) h = hfold b k (hfold a a.size h)
  | 0 => by rw [Nat.add_zero, hfold_left a b h a.size (Nat.le_refl _)]; rfl
  | k + 1 => by
    rw [← Nat.add_assoc]
    unfold hfold
    rw [hfold_right a b h k, bt_right a b k]
theorem hfold_append (a b : ByteArray) (h : Int) : hfold (a ++ b) (a ++ b).size h = hfold b b.size (hfold a a.size h) := by
  rw [ByteArray.size_append, hfold_right]
theorem hfold_mark (h : Int) : hfold (⟨#[255]⟩ : ByteArray) 1 h = IntKind.u64.wrap ((Go.bits .xor .u64 h 255) * 1099511628211) := by
  have e : bt (⟨#[255]⟩ : ByteArray) 0 = 255 := by decide
  have e2 : IntKind.u64.wrap 255 = 255 := by decide
  unfold hfold hfold hstep
  rw [show ((0 : Nat) : Int) = 0 from rfl, e, e2]
theorem hfold_label (h : Int) (x : S67) : hfold (((x.f0 ++ (⟨#[255]⟩ : ByteArray)) ++ x.f1) ++ (⟨#[255]⟩ : ByteArray)) (((x.f0 ++ (⟨#[255]⟩ : ByteArray)) ++ x.f1) ++ (⟨#[255]⟩ : ByteArray)).size h = hlab h x := by
  rw [hfold_append, hfold_append, hfold_append, size_one, hfold_mark, hfold_mark]; rfl
theorem hash_inner (s : ByteArray) (l : List S67) (n i : Int) (hs : s.size ≤ 4611686018427387904) (h0 : Int) (d : Nat) : ∀ (k j : Nat), j + d = s.size → d < k →
    tocsinref04_Hash.l1 k (hfold s j h0) s l n i (s.size : Int) (j : Int) = tocsinref04_Hash.l0 (k - d - 1) (hfold s s.size h0) l n (wrap64 (i + 1)) := by
  induction d with
  | zero =>
    intro k j hj hk
    obtain ⟨k, rfl⟩ : ∃ m, k = m + 1 := ⟨k - 1, by omega⟩
    obtain rfl : j = s.size := by omega
    unfold tocsinref04_Hash.l1
    rw [if_neg (by omega)]; rfl
  | succ d ih =>
    intro k j hj hk
    obtain ⟨k, rfl⟩ : ∃ m, k = m + 1 := ⟨k - 1, by omega⟩
    conv => lhs; unfold tocsinref04_Hash.l1
    rw [if_pos (by omega), if_pos (by omega), if_pos (by omega), show wrap64 ((j : Int) + 1) = ((j + 1 : Nat) : Int) from by rw [w64 (by omega) (by omega)]; simp]
    have := ih k (j + 1) (by omega) (by omega)
    rw [show k + 1 - (d + 1) - 1 = k - d - 1 by omega, ← this]
    rfl
/-- How many rounds the document's hash takes from a label on. -/
def hrounds : List S67 → Nat
  | [] => 1
  | x :: xs => x.f0.size + x.f1.size + 4 + hrounds xs
theorem hash_outer (l : List S67) (hl : l.length ≤ 4611686018427387904) (hz : ∀ x, x ∈ l → x.f0.size ≤ 140737488355328 ∧ x.f1.size ≤ 140737488355328) (d : Nat) : ∀ (k i : Nat) (h : Int), i + d = l.length → hrounds (l.drop i) ≤ k →
    tocsinref04_Hash.l0 k h l (l.length : Int) (i : Int) = some ((l.drop i).foldl hlab h) := by
  induction d with
  | zero =>
    intro k i h hi hk
    have e : l.drop i = [] := List.drop_eq_nil_of_le (by omega)
    rw [e] at hk
    obtain ⟨k, rfl⟩ : ∃ m, k = m + 1 := ⟨k - 1, by simp [hrounds] at hk; omega⟩
    unfold tocsinref04_Hash.l0
    rw [if_neg (by omega), e]; rfl
  | succ d ih =>
    intro k i h hi hk
    have hil : i < l.length := by omega
    rw [List.drop_eq_getElem_cons hil] at hk ⊢
    unfold hrounds at hk
    obtain ⟨k, rfl⟩ : ∃ m, k = m + 1 := ⟨k - 1, by omega⟩
    obtain ⟨z0, z1⟩ := hz l[i] (List.getElem_mem _)
    unfold tocsinref04_Hash.l0
    have s1 : ((l[i].f0 ++ (⟨#[255]⟩ : ByteArray))).size = l[i].f0.size + 1 := by rw [ByteArray.size_append, size_one]
    have s2 : ((l[i].f0 ++ (⟨#[255]⟩ : ByteArray)) ++ l[i].f1).size = l[i].f0.size + 1 + l[i].f1.size := by rw [ByteArray.size_append, s1]
    have s3 : (((l[i].f0 ++ (⟨#[255]⟩ : ByteArray)) ++ l[i].f1) ++ (⟨#[255]⟩ : ByteArray)).size = l[i].f0.size + 1 + l[i].f1.size + 1 := by rw [ByteArray.size_append, s2, size_one]
    rw [if_pos (by omega), if_pos (by omega), if_pos (by omega), rd_get hil, if_pos (by omega), if_pos (by rw [s1]; omega), if_pos (by rw [s2]; omega)]
    have hin := hash_inner (((l[i].f0 ++ (⟨#[255]⟩ : ByteArray)) ++ l[i].f1) ++ (⟨#[255]⟩ : ByteArray)) l (l.length : Int) (i : Int) (by rw [s3]; omega) h _ k 0 (Nat.zero_add _) (by rw [s3]; omega)
    rw [hfold_label] at hin
    rw [show (0 : Int) = ((0 : Nat) : Int) from rfl]
    refine hin.trans ?_
    rw [show wrap64 ((i : Int) + 1) = ((i + 1 : Nat) : Int) from by rw [w64 (by omega) (by omega)]; simp]
    exact ih _ (i + 1) _ (by omega) (by rw [s3]; omega)
theorem hash_is (l : List S67) (hl : l.length ≤ 4611686018427387904) (hz : ∀ x, x ∈ l → x.f0.size ≤ 140737488355328 ∧ x.f1.size ≤ 140737488355328) (k : Nat) (hk : hrounds l ≤ k) :
    tocsinref04_Hash.f k l = some (l.foldl hlab 14695981039346656037) := by
  unfold tocsinref04_Hash.f
  have := hash_outer l hl hz l.length k 0 14695981039346656037 (by omega) (by simpa using hk)
  simpa using this
theorem hash_own (l : List S67) (hz : ∀ x, x ∈ l → x.f0.size ≤ 140737488355328 ∧ x.f1.size ≤ 140737488355328) : labels_Hash.f l = some (l.foldl hlab 14695981039346656037) := by
  unfold labels_Hash.f
  rw [if_pos]
  unfold okSizes
  rw [List.all_eq_true]
  intro x hx
  obtain ⟨z0, z1⟩ := hz x hx
  simp; omega

/-! ### the law -/
theorem awake_60 : tocsinlaw04_awake.f 60 = some true := by kernel_rfl
theorem awake_more : ∀ k, tocsinlaw04_awake.f (60 + k) = some true
  | 0 => awake_60
  | k + 1 => tocsinlaw04_awake.mono (60 + k) _ (awake_more k)
theorem order_pure (a b c : List S67) (ha : a.length ≤ 4611686018427387904) (hb : b.length ≤ 4611686018427387904) (hc : c.length ≤ 4611686018427387904) (hz : ∀ x, x ∈ a → x.f0.size ≤ 140737488355328 ∧ x.f1.size ≤ 140737488355328) :
    ∃ k, tocsinlaw04_LabelsOrder.f k a b c = some true := by
  refine ⟨62 + 2 * a.length + 2 * b.length + hrounds a, ?_⟩
  generalize hk : 62 + 2 * a.length + 2 * b.length + hrounds a = k
  unfold tocsinlaw04_LabelsOrder.f
  rw [compare_is a b ha k (by omega), compare_is b c hb k (by omega), compare_is a c ha k (by omega), refcompare_is a b ha k (by omega), compare_is b a hb k (by omega), same_is a b ha k (by omega), hash_own a hz, hash_is a ha hz k (by omega)]
  simp only [Option.bind_some, if_true]
  have hr := lc_range a b
  have hr2 := lc_range a c
  have hr3 := lc_range b c
  have ht := lc_trans a b c
  have hn := lc_neg a b
  have hw : wrap64 (- lc a b) = - lc a b := w64 (by omega) (by omega)
  rw [hw, if_pos hn, if_neg (by by_cases h : lc a b = 0 <;> simp [h])]
  obtain ⟨q, hq, rfl⟩ : ∃ q, tocsinlaw04_awake.f q = some true ∧ k = q + 1 := ⟨60 + (k - 61), awake_more _, by omega⟩
  simp only [tocsinlaw04_LabelsOrder.j0]
  rw [if_neg (by simp), hq]
  simp only [Option.bind_some]
  by_cases h1 : lc a b ≤ 0
  · rw [if_pos h1]
    by_cases h2 : lc b c ≤ 0
    · obtain ⟨t1, t2⟩ := ht h1 h2
      rw [if_pos h2, if_neg (by omega)]
      by_cases h3 : lc a b < 0
      · rw [if_pos h3, if_neg (by have := t2 h3; omega)]
      · rw [if_neg h3]
    · rw [if_neg h2]
      split <;> rfl
  · rw [if_neg h1, if_neg (by omega)]
end Go.Proofs.YtfkgbklkjnhipaaGreatDoor.P
