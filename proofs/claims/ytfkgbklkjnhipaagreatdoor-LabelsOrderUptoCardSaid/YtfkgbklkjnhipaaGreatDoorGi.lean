/- Contracts of leaves, in the printer's form: (*labels.reader).value. -/
import Derived.Test.YtfkgbklkjnhipaaGreatDoorPx8
import Derived.Test.YtfkgbklkjnhipaaGreatDoorPx7
import Derived.Test.YtfkgbklkjnhipaaGreatDoorShelfB
import Derived.Test.YtfkgbklkjnhipaaGreatDoorShelfC
import Derived.Test.YtfkgbklkjnhipaaGreatDoorGd
import Derived.Lib.Hide
import Derived.Lib.OthersKept
import Derived.RegionTactic
namespace Go.Proofs.YtfkgbklkjnhipaaGreatDoor.P
open Go.RowKit Go.Proofs.YtfkgbklkjnhipaaGreatDoorW.PrintWords Go.Proofs.YtfkgbklkjnhipaaGreatDoorW.PrintLast Go.Proofs.YtfkgbklkjnhipaaGreatDoorW.PrintMore
set_option linter.unusedVariables false
set_option linter.unusedSimpArgs false

/-- A builder of the call's own stays where only the state's block is written. -/
theorem atF_keep {T e : TypeId} {B b : Nat} {p : Value} {bs : List Value} {w w1 : World} (h : Lib.BuilderAtF T e B b p bs w) {g : Nat} (hk : KeepBut w w1 g none) (hgb : g ≠ b) {cs : Array Value} {t : TypeId} {fr : Nat × Nat} (hg : w.heap[g]? = some (.cells cs t fr)) (ht : t ≠ e) : Lib.BuilderAtF T e B b p bs w1 := by
  obtain ⟨h1, v, h2, h3, h4⟩ := h
  have hlt : b < w.heap.size := (Array.getElem?_eq_some_iff.1 h2).1
  refine ⟨h1, v, (hk.2 b hlt (Ne.symm hgb) (by simp)).trans h2, ?_, h4⟩
  obtain ⟨q1, q2⟩ := h3
  refine ⟨q1, ?_⟩
  rcases q2 with q2 | ⟨g', cap, cur, fz, r1, r2, r3, r4⟩
  · exact .inl q2
  · refine .inr ⟨g', cap, cur, fz, r1, r2, ?_, r4⟩
    have hlt' : g' < w.heap.size := (Array.getElem?_eq_some_iff.1 r3).1
    refine (hk.2 g' hlt' (fun e' => ?_) (by simp)).trans r3
    subst e'
    rw [hg] at r3
    simp only [Option.some.injEq, Obj.cells.injEq] at r3
    exact ht r3.2.1
theorem isF_keep {T e : TypeId} {B b : Nat} {bs : List Value} {w w1 : World} (h : Lib.IsBuilderF T e B b bs w) {g : Nat} (hk : KeepBut w w1 g none) (hgb : g ≠ b) {cs : Array Value} {t : TypeId} {fr : Nat × Nat} (hg : w.heap[g]? = some (.cells cs t fr)) (ht : t ≠ e) : Lib.IsBuilderF T e B b bs w1 :=
  h.elim (fun x => .inl (atF_keep x hk hgb hg ht)) (fun x => .inr (atF_keep x hk hgb hg ht))

def byteOf (c : Int) : UInt8 := UInt8.ofNat c.toNat
/-- The text behind the first sign of quotation. -/
def labels_reader_value.l0 : Nat → List UInt8 → ByteArray → Int → Int → Option (ByteArray × ByteArray × Int × Int)
  | 0, _, _, _, _ => none
  | k + 1, acc, s, a, b =>
    if b < 0 ∧ a < (s.size : Int) then
      if 0 ≤ a ∧ acc.length + 1 ≤ 140737488355328 ∧ s.size ≤ 9223372036854775800 then
        if bt s a = 34 then some (⟨acc.toArray⟩, s, a + 1, b)
        else if bt s a ≠ 92 then labels_reader_value.l0 k (acc ++ [byteOf (bt s a)]) s (a + 1) b
        else if a + 1 ≥ (s.size : Int) then labels_reader_value.l0 k acc s (a + 1) (a + 1)
        else if bt s (a + 1) = 110 then labels_reader_value.l0 k (acc ++ [10]) s (a + 2) b
        else if bt s (a + 1) = 92 ∨ bt s (a + 1) = 34 then labels_reader_value.l0 k (acc ++ [byteOf (bt s (a + 1))]) s (a + 2) b
        else labels_reader_value.l0 k acc s (a + 2) a
      else none
    else (labels_reader_fail.f s a b (s.size : Int)).bind fun t => some ((⟨#[]⟩ : ByteArray), t.1, t.2.1, t.2.2)
def labels_reader_value.f (k : Nat) (s0_0 : ByteArray) (s0_1 : Int) (s0_2 : Int) : Option (ByteArray × ByteArray × Int × Int) :=
  (labels_reader_want.f k s0_0 s0_1 s0_2 34).bind fun t => labels_reader_value.l0 k [] t.1 t.2.1 t.2.2

theorem labels_reader_value.mono_l : ∀ k acc s a b, LeO (labels_reader_value.l0 k acc s a b) (labels_reader_value.l0 (k + 1) acc s a b)
  | 0, _, _, _, _ => fun r h => by simp [labels_reader_value.l0] at h
  | k + 1, acc, s, a, b => fun r h => by
    have ih := labels_reader_value.mono_l k
    unfold labels_reader_value.l0 at h ⊢
    split at h
    · rename_i h1
      rw [if_pos h1]
      split at h
      · rename_i h2
        rw [if_pos h2]
        split at h
        · rename_i h3; rw [if_pos h3]; exact h
        · rename_i h3
          rw [if_neg h3]
          split at h
          · rename_i h4; rw [if_pos h4]; exact ih _ _ _ _ r h
          · rename_i h4
            rw [if_neg h4]
            split at h
            · rename_i h5; rw [if_pos h5]; exact ih _ _ _ _ r h
            · rename_i h5
              rw [if_neg h5]
              split at h
              · rename_i h6; rw [if_pos h6]; exact ih _ _ _ _ r h
              · rename_i h6
                rw [if_neg h6]
                split at h
                · rename_i h7; rw [if_pos h7]; exact ih _ _ _ _ r h
                · rename_i h7; rw [if_neg h7]; exact ih _ _ _ _ r h
      · cases h
    · rename_i h1
      rw [if_neg h1]; exact h
theorem labels_reader_value.mono : ∀ a0 a1 a2 k, LeO (labels_reader_value.f k a0 a1 a2) (labels_reader_value.f (k + 1) a0 a1 a2) := by
  intro a0 a1 a2 k r h
  unfold labels_reader_value.f at h ⊢
  obtain ⟨t, h1, h2⟩ := Option.bind_eq_some_iff.mp h
  rw [labels_reader_want.mono _ _ _ _ k t h1]
  exact labels_reader_value.mono_l k _ _ _ _ r h2


theorem wrap64_small {n : Int} (h0 : -9223372036854775808 ≤ n) (h1 : n ≤ 9223372036854775807) : wrap64 n = n := by unfold wrap64; omega
/-- The state behind a call that writes the builder alone. -/
theorem st_over {w0 w wr w' : World} {g bb : Nat} {s : ByteArray} {a b : Int} (HI : IsS119 w0 wr g s a b) (HB : Below w0.heap.size w0 wr) (HK : KeepBut w wr g none) (hs : w0.heap.size ≤ w.heap.size) (hgb : g ≠ bb) (hb : Below w.heap.size wr w') (ho : Lib.OthersKept 5 (some bb) wr w') :
    IsS119 w0 w' g s a b ∧ Below w0.heap.size w0 w' ∧ KeepBut w w' g none := by
  refine ⟨⟨ho g _ HI.1 (by simpa using hgb) (fun c fz e => by simp at e), HI.2⟩, HB.trans (hb.mono hs), Nat.le_trans HK.1 hb.size, fun i hi hg hr => (hb.block i hi).trans (HK.2 i hi hg hr)⟩
theorem byteOf_cell (s : ByteArray) (a : Int) : Value.int .u8 ((byteOf (bt s a)).toNat : Int) = .int .u8 (bt s a) := by
  have h := bt_range s a
  congr 1
  unfold byteOf
  rw [UInt8.toNat_ofNat']
  omega
theorem byteCells_push (acc : List UInt8) (x : UInt8) : Lib.byteCells (acc ++ [x]) = Lib.byteCells acc ++ [.int .u8 (x.toNat : Int)] := by simp [Lib.byteCells]

/-- A byte written to the builder: what stands behind it. -/
theorem write_st {w0 w W : World} {g bb : Nat} {s : ByteArray} {a b : Int} {acc : List UInt8} (x : UInt8) (c : Int) (hx : (x.toNat : Int) = c) (HI : IsS119 w0 W g s a b) (HBd : Lib.IsBuilderF 163 5 w.heap.size bb (Lib.byteCells acc) W) (HB : Below w0.heap.size w0 W) (HK : KeepBut w W g none) (hs : w0.heap.size ≤ w.heap.size) (hgb : g ≠ bb) (hl : acc.length + 1 ≤ 140737488355328) :
    Calls Tryz.prog 176 #[.pointer (some ⟨bb, 0, none⟩), .int .u8 c] W fun e w' => e = .returned .nilIface ∧ IsS119 w0 w' g s a b ∧ Lib.IsBuilderF 163 5 w.heap.size bb (Lib.byteCells (acc ++ [x])) w' ∧ Below w0.heap.size w0 w' ∧ KeepBut w w' g none := by
  refine (Tryz.Builder_WriteByte_k w.heap.size bb (Lib.byteCells acc) c W HBd (by rw [Lib.byteCells_length]; exact hl) HK.1).mono ?_
  rintro e w' ⟨he, h1, h2, h3⟩
  obtain ⟨q1, q2, q3⟩ := st_over HI HB HK hs hgb h2 h3
  refine ⟨he, q1, ?_, q2, q3⟩
  rw [byteCells_push, hx]
  exact .inr h1
/-- The same of a call of fail. -/
theorem fail_st {w0 w W : World} {g bb : Nat} {s : ByteArray} {a b at_ : Int} {acc : List UInt8} (hb0 : b < 0) (HI : IsS119 w0 W g s a b) (HBd : Lib.IsBuilderF 163 5 w.heap.size bb (Lib.byteCells acc) W) (HB : Below w0.heap.size w0 W) (HK : KeepBut w W g none) (hgb : g ≠ bb) :
    Calls Tryz.prog 88 #[.pointer (some ⟨g, 0, none⟩), .int .i64 at_] W fun e w' => e = .returned (.tuple #[]) ∧ IsS119 w0 w' g s a at_ ∧ Lib.IsBuilderF 163 5 w.heap.size bb (Lib.byteCells acc) w' ∧ Below w0.heap.size w0 w' ∧ KeepBut w w' g none := by
  refine (labels_reader_fail.calls g s a b at_ s a at_ w0 W HI HB (by simp [labels_reader_fail.f, hb0])).mono ?_
  rintro e w' ⟨he, h1, h2, h3⟩
  exact ⟨he, h1, isF_keep HBd h3 hgb HI.1 (by decide), h2, HK.trans h3 (.inl rfl)⟩
set_option maxRecDepth 100000 in
set_option maxHeartbeats 20000000 in
theorem labels_reader_value.calls (k : Nat) (g : Nat) (s0_0 : ByteArray) (s0_1 : Int) (s0_2 : Int) (r1 : ByteArray) (r2 : ByteArray) (r3 : Int) (r4 : Int) (w0 w : World) (hI : IsS119 w0 w g s0_0 s0_1 s0_2) (hB : Below w0.heap.size w0 w) (h : labels_reader_value.f k s0_0 s0_1 s0_2 = some (r1, r2, r3, r4)) :
    Calls Tryz.prog 143 #[.pointer (some ⟨g, 0, none⟩)] w fun e w' => e = .returned (.string r1) ∧ IsS119 w0 w' g r2 r3 r4 ∧ Below w0.heap.size w0 w' ∧ KeepBut w w' g none := by
  obtain ⟨⟨s, a, b⟩, A, H⟩ := Option.bind_eq_some_iff.mp h
  have HW := Lib.hid (labels_reader_want.calls k g s0_0 s0_1 s0_2 34 s a b w0 w hI hB A)
  have HA : Hid (labels_reader_value.l0 k [] s a b = some (r1, r2, r3, r4)) := H
  have HS0 := Lib.hid (Nat.le_trans hB.size (Nat.le_refl w.heap.size))
  clear h A H hI hB
  go_enter Tryz.func143, Tryz.ntmps143
  go_wp2_with (go_at_call 142; refine HW.out.mono ?_; rintro e w1 ⟨rfl, i1, b1, k1⟩; have I1 := Lib.hid i1; have B1 := Lib.hid b1; have K1 := Lib.hid k1; clear i1 b1 k1)
  obtain ⟨bb, hbb⟩ : ∃ bb, w1.heap.size = bb := ⟨_, rfl⟩
  have hbw : w.heap.size ≤ bb := by have := K1.out.1; omega
  have hgb : g ≠ bb := by have := I1.out.lt; omega
  have IB : Hid (Lib.IsBuilderF 163 5 w.heap.size bb (Lib.byteCells []) (w1.alloc (.cells #[.pointer none, .slice none 0 0] 163))) :=
    .inl ⟨hbw, .slice none 0 0, by rw [← hbb]; exact heap_alloc_new w1 _, ⟨rfl, .inl ⟨rfl, rfl⟩⟩, by simp [Value.ownBlock]⟩
  have I2 := Lib.hid (I1.out.alloc (.cells #[.pointer none, .slice none 0 0] 163))
  have B2 := Lib.hid (below_alloc B1.out (.cells #[.pointer none, .slice none 0 0] 163))
  have K2 := Lib.hid (keep_alloc K1.out (.cells #[.pointer none, .slice none 0 0] 163))
  have HBB := Lib.hid hbb
  rw [hbb]
  generalize w1.alloc (.cells #[.pointer none, .slice none 0 0] 163) = w2 at IB I2 B2 K2 ⊢
  clear HW I1 B1 K1 hbb HBB
  go_loopg [4, 5] k (fun kq v4 v5 wr => ∃ (acc : List UInt8) (a b : Int), Hid (labels_reader_value.l0 kq acc s a b = some (r1, r2, r3, r4)) ∧ Hid (kq ≤ k) ∧ Hid (IsS119 w0 wr g s a b) ∧ Hid (Lib.IsBuilderF 163 5 w.heap.size bb (Lib.byteCells acc) wr) ∧ Hid (Below w0.heap.size w0 wr) ∧ Hid (KeepBut w wr g none))
  case atStart => exact ⟨[], a, b, HA, Nat.le_refl _, I2, IB, B2, K2⟩
  case round =>
    clear HA I2 IB B2 K2
    obtain ⟨acc, a, b, HA, HK, HI, HBd, HB, HKb⟩ := hrel
    cases gk with
    | zero => exact absurd HA.out (by simp [labels_reader_value.l0])
    | succ k1 =>
      have H := HA.out
      clear HA
      unfold labels_reader_value.l0 at H
      have c0 : wr.cell? ⟨g, 0, none⟩ = some (.string s) := cellE HI.out.1 0 rfl
      have c1 : wr.cell? ⟨g, 1, none⟩ = some (.int .i64 a) := cellE HI.out.1 1 rfl
      have c2 : wr.cell? ⟨g, 2, none⟩ = some (.int .i64 b) := cellE HI.out.1 2 rfl
      have f1 : wr.frozen? ⟨g, 1, none⟩ = false := by simp [World.frozen?, HI.out.1]
      by_cases hb0 : b < 0
      · by_cases ha : a < (s.size : Int)
        · rw [if_pos ⟨hb0, ha⟩] at H
          by_cases hg : 0 ≤ a ∧ acc.length + 1 ≤ 140737488355328 ∧ s.size ≤ 9223372036854775800
          · rw [if_pos hg] at H
            obtain ⟨h0, hl, hsz⟩ := hg
            have db : decide (b < 0) = true := decide_eq_true hb0
            have da : decide (a < (s.size : Int)) = true := decide_eq_true ha
            have hx := bt_at s a
            have hwr : wrap64 (a + 1) = a + 1 := wrap64_small (by omega) (by omega)
            have hwr2 : wrap64 (a + 1 + 1) = a + 2 := by rw [show a + 1 + 1 = a + 2 by omega]; exact wrap64_small (by omega) (by omega)
            have I1 := Lib.hid (IsS119.set_1 HI.out.drew.drew (a + 1))
            have Bd1 := Lib.hid (isF_keep HBd.out ((keep_drew (keep_drew (KeepBut.refl wr g none))).set_ 1 (.int .i64 (a + 1))) hgb HI.out.1 (by decide))
            have B1 := Lib.hid ((HB.out.drew.drew).setCell (p := ⟨g, 1, none⟩) HI.out.2 (.int .i64 (a + 1)))
            have K1 := Lib.hid ((keep_drew (keep_drew HKb.out)).set_ 1 (.int .i64 (a + 1)))
            by_cases e34 : bt s a = 34
            · rw [if_pos e34] at H
              simp only [Option.some.injEq, Prod.mk.injEq] at H
              obtain ⟨rfl, rfl, rfl, rfl⟩ := H
              have CS := Lib.hid (Any.Builder_String_any_k Tryz.lays169 Tryz.Builder_Extra_169 w.heap.size bb acc _ Bd1.out K1.out.1)
              clear hb0 hwr2
              replace h0 := eq_true h0
              replace ha := eq_true ha
              go_wp2
              go_region
              go_wp2
              go_region
              go_wp2_with (go_at_call 140; refine CS.out.mono ?_; rintro e w3 ⟨rfl, n1, n2, n3⟩; have N := Lib.hid (And.intro n2 n3); clear n1 n2 n3)
              go_ret
              obtain ⟨q1, q2, q3⟩ := st_over I1.out B1.out K1.out HS0.out hgb N.out.1 N.out.2
              exact ⟨rfl, q1, q2, q3⟩
            · rw [if_neg e34] at H
              have d34 : decide (bt s a = 34) = false := decide_eq_false e34
              have q34 : (bt s a == 34) = false := by simpa using e34
              by_cases e92 : bt s a ≠ 92
              · rw [if_pos e92] at H
                have HH := Lib.hid H
                have d92 : decide (bt s a = 92) = false := decide_eq_false e92
                have q92 : (bt s a == 92) = false := by simpa using e92
                have CW := Lib.hid (write_st (byteOf (bt s a)) (bt s a) (by have := byteOf_cell s a; injection this) I1.out Bd1.out B1.out K1.out HS0.out hgb hl)
                clear H e34 e92 hb0 hwr2
                replace h0 := eq_true h0
                replace ha := eq_true ha
                go_wp2
                go_region
                go_wp2
                go_region
                go_wp2_with (go_at_call 176; refine CW.out.mono ?_; rintro e w3 ⟨rfl, i3, d3, b3, k3⟩; have I3 := Lib.hid i3; have D3 := Lib.hid d3; have B3 := Lib.hid b3; have K3 := Lib.hid k3; clear i3 d3 b3 k3)
                go_roundg k1
                case measure => have := HK.out; omega
                case rel => exact ⟨acc ++ [byteOf (bt s a)], a + 1, b, HH, by have := HK.out; show _ ≤ _; omega, I3, D3, B3, K3⟩
              · rw [if_neg e92] at H
                have e92' : bt s a = 92 := Classical.byContradiction e92
                clear e34 d34 q34
                by_cases eend : a + 1 ≥ (s.size : Int)
                · rw [if_pos eend] at H
                  have HH := Lib.hid H
                  have dend : decide ((s.size : Int) ≤ a + 1) = true := decide_eq_true eend
                  have CF := Lib.hid (fail_st (at_ := a + 1) hb0 I1.out.drew (isF_keep Bd1.out (keep_drew (KeepBut.refl _ g none)) hgb I1.out.1 (by decide)) B1.out.drew (keep_drew K1.out) hgb)
                  clear H e92 hb0 hwr2 eend
                  replace h0 := eq_true h0
                  replace ha := eq_true ha
                  go_wp2
                  go_region
                  go_wp2
                  go_region
                  go_wp2
                  go_region
                  go_wp2_with (go_at_call 88; refine CF.out.mono ?_; rintro e w3 ⟨rfl, i3, d3, b3, k3⟩; have I3 := Lib.hid i3; have D3 := Lib.hid d3; have B3 := Lib.hid b3; have K3 := Lib.hid k3; clear i3 d3 b3 k3)
                  go_roundg k1
                  case measure => have := HK.out; omega
                  case rel => exact ⟨acc, a + 1, a + 1, HH, by have := HK.out; show _ ≤ _; omega, I3, D3, B3, K3⟩
                · rw [if_neg eend] at H
                  have ha1 : a + 1 < (s.size : Int) := by omega
                  have h01 : 0 ≤ a + 1 := by omega
                  have dend : decide ((s.size : Int) ≤ a + 1) = false := decide_eq_false eend
                  have hx1 := bt_at s (a + 1)
                  have hwr4 : wrap64 (a + 2) = a + 2 := wrap64_small (by omega) (by omega)
                  have hwr5 : wrap64 a = a := wrap64_small (by omega) (by omega)
                  have hwr3 : wrap64 (a + 1 - 1) = a := by rw [show a + 1 - 1 = a by omega]; exact wrap64_small (by omega) (by omega)
                  have J1 : Hid (IsS119 w0 (wr.setCell ⟨g, 1, none⟩ (.int .i64 (a + 1))).drew.drew.drew.drew g s (a + 1) b) := I1.out.drew.drew
                  have J2 : Hid (Lib.IsBuilderF 163 5 w.heap.size bb (Lib.byteCells acc) (wr.setCell ⟨g, 1, none⟩ (.int .i64 (a + 1))).drew.drew.drew.drew) := isF_keep Bd1.out (keep_drew (keep_drew (KeepBut.refl _ g none))) hgb I1.out.1 (by decide)
                  have J3 : Hid (Below w0.heap.size w0 (wr.setCell ⟨g, 1, none⟩ (.int .i64 (a + 1))).drew.drew.drew.drew) := B1.out.drew.drew
                  have J4 : Hid (KeepBut w (wr.setCell ⟨g, 1, none⟩ (.int .i64 (a + 1))).drew.drew.drew.drew g none) := keep_drew (keep_drew K1.out)
                  have HB0 := Lib.hid hb0
                  have HH0 := Lib.hid H
                  clear e92 eend hb0 H I1 Bd1 B1 K1
                  replace h0 := eq_true h0
                  replace ha := eq_true ha
                  replace h01 := eq_true h01
                  replace ha1 := eq_true ha1
                  go_wp2
                  go_region
                  go_wp2
                  go_region
                  go_wp2
                  go_region
                  go_wp2
                  go_region
                  have H := HH0.out
                  have hb0 := HB0.out
                  clear HH0 HB0
                  by_cases e110 : bt s (a + 1) = 110
                  · rw [if_pos e110] at H
                    have HH := Lib.hid H
                    have CW := Lib.hid (write_st 10 10 rfl J1.out J2.out J3.out J4.out HS0.out hgb hl)
                    clear H hb0
                    go_wp2_with fail
                    refine CW.out.mono ?_
                    rintro e w3 ⟨rfl, i3, d3, b3, k3⟩
                    have c0' : w3.cell? ⟨g, 0, none⟩ = some (.string s) := cellE i3.1 0 rfl
                    have c1' : w3.cell? ⟨g, 1, none⟩ = some (.int .i64 (a + 1)) := cellE i3.1 1 rfl
                    have f1' : w3.frozen? ⟨g, 1, none⟩ = false := by simp [World.frozen?, i3.1]
                    have I3 := Lib.hid (IsS119.set_1 i3 (a + 2))
                    have D3 := Lib.hid (isF_keep d3 ((KeepBut.refl w3 g none).set_ 1 (.int .i64 (a + 2))) hgb i3.1 (by decide))
                    have B3 := Lib.hid (b3.setCell (p := ⟨g, 1, none⟩) i3.2 (.int .i64 (a + 2)))
                    have K3 := Lib.hid (k3.set_ 1 (.int .i64 (a + 2)))
                    clear i3 d3 b3 k3
                    go_wp2
                    go_roundg k1
                    case measure => have := HK.out; omega
                    case rel => exact ⟨acc ++ [10], a + 2, b, HH, by have := HK.out; show _ ≤ _; omega, I3, D3, B3, K3⟩
                  · rw [if_neg e110] at H
                    have d110 : decide (bt s (a + 1) = 110) = false := decide_eq_false e110
                    have q110 : (bt s (a + 1) == 110) = false := by simpa using e110
                    by_cases f92 : bt s (a + 1) = 92
                    · rw [if_pos (.inl f92)] at H
                      clear e110
                      have HH := Lib.hid H
                      have CW := Lib.hid (write_st (byteOf (bt s (a + 1))) 92 (by rw [f92]; rfl) J1.out J2.out J3.out J4.out HS0.out hgb hl)
                      clear H hb0
                      go_wp2_with fail
                      refine CW.out.mono ?_
                      rintro e w3 ⟨rfl, i3, d3, b3, k3⟩
                      have c0' : w3.cell? ⟨g, 0, none⟩ = some (.string s) := cellE i3.1 0 rfl
                      have c1' : w3.cell? ⟨g, 1, none⟩ = some (.int .i64 (a + 1)) := cellE i3.1 1 rfl
                      have f1' : w3.frozen? ⟨g, 1, none⟩ = false := by simp [World.frozen?, i3.1]
                      have I3 := Lib.hid (IsS119.set_1 i3 (a + 2))
                      have D3 := Lib.hid (isF_keep d3 ((KeepBut.refl w3 g none).set_ 1 (.int .i64 (a + 2))) hgb i3.1 (by decide))
                      have B3 := Lib.hid (b3.setCell (p := ⟨g, 1, none⟩) i3.2 (.int .i64 (a + 2)))
                      have K3 := Lib.hid (k3.set_ 1 (.int .i64 (a + 2)))
                      clear i3 d3 b3 k3
                      go_wp2
                      go_roundg k1
                      case measure => have := HK.out; omega
                      case rel => exact ⟨acc ++ [byteOf (bt s (a + 1))], a + 2, b, HH, by have := HK.out; show _ ≤ _; omega, I3, D3, B3, K3⟩
                    · have d92 : decide (bt s (a + 1) = 92) = false := decide_eq_false f92
                      have q92 : (bt s (a + 1) == 92) = false := by simpa using f92
                      by_cases f34 : bt s (a + 1) = 34
                      · rw [if_pos (.inr f34)] at H
                        clear e110 f92
                        have HH := Lib.hid H
                        have CW := Lib.hid (write_st (byteOf (bt s (a + 1))) 34 (by rw [f34]; rfl) J1.out J2.out J3.out J4.out HS0.out hgb hl)
                        clear H hb0
                        go_wp2_with fail
                        refine CW.out.mono ?_
                        rintro e w3 ⟨rfl, i3, d3, b3, k3⟩
                        have c0' : w3.cell? ⟨g, 0, none⟩ = some (.string s) := cellE i3.1 0 rfl
                        have c1' : w3.cell? ⟨g, 1, none⟩ = some (.int .i64 (a + 1)) := cellE i3.1 1 rfl
                        have f1' : w3.frozen? ⟨g, 1, none⟩ = false := by simp [World.frozen?, i3.1]
                        have I3 := Lib.hid (IsS119.set_1 i3 (a + 2))
                        have D3 := Lib.hid (isF_keep d3 ((KeepBut.refl w3 g none).set_ 1 (.int .i64 (a + 2))) hgb i3.1 (by decide))
                        have B3 := Lib.hid (b3.setCell (p := ⟨g, 1, none⟩) i3.2 (.int .i64 (a + 2)))
                        have K3 := Lib.hid (k3.set_ 1 (.int .i64 (a + 2)))
                        clear i3 d3 b3 k3
                        go_wp2
                        go_roundg k1
                        case measure => have := HK.out; omega
                        case rel => exact ⟨acc ++ [byteOf (bt s (a + 1))], a + 2, b, HH, by have := HK.out; show _ ≤ _; omega, I3, D3, B3, K3⟩
                      · rw [if_neg (fun hh => hh.elim f92 f34)] at H
                        have d34 : decide (bt s (a + 1) = 34) = false := decide_eq_false f34
                        have q34 : (bt s (a + 1) == 34) = false := by simpa using f34
                        have HH := Lib.hid H
                        have CF := Lib.hid (fail_st (at_ := a) hb0 J1.out J2.out J3.out J4.out hgb)
                        clear H hb0 e110 f92 f34
                        go_wp2_with fail
                        refine CF.out.mono ?_
                        rintro e w3 ⟨rfl, i3, d3, b3, k3⟩
                        have c0' : w3.cell? ⟨g, 0, none⟩ = some (.string s) := cellE i3.1 0 rfl
                        have c1' : w3.cell? ⟨g, 1, none⟩ = some (.int .i64 (a + 1)) := cellE i3.1 1 rfl
                        have f1' : w3.frozen? ⟨g, 1, none⟩ = false := by simp [World.frozen?, i3.1]
                        have I3 := Lib.hid (IsS119.set_1 i3 (a + 2))
                        have D3 := Lib.hid (isF_keep d3 ((KeepBut.refl w3 g none).set_ 1 (.int .i64 (a + 2))) hgb i3.1 (by decide))
                        have B3 := Lib.hid (b3.setCell (p := ⟨g, 1, none⟩) i3.2 (.int .i64 (a + 2)))
                        have K3 := Lib.hid (k3.set_ 1 (.int .i64 (a + 2)))
                        clear i3 d3 b3 k3
                        go_wp2
                        go_roundg k1
                        case measure => have := HK.out; omega
                        case rel => exact ⟨acc, a + 2, a, HH, by have := HK.out; show _ ≤ _; omega, I3, D3, B3, K3⟩
          · rw [if_neg hg] at H; cases H
        · rw [if_neg (fun hh => ha hh.2)] at H
          obtain ⟨⟨t1, t2, t3⟩, HF, HR⟩ := Option.bind_eq_some_iff.mp H
          simp only [Option.some.injEq, Prod.mk.injEq] at HR
          obtain ⟨rfl, rfl, rfl, rfl⟩ := HR
          have CF := Lib.hid (labels_reader_fail.calls g s a b (s.size : Int) t1 t2 t3 w0 wr.drew HI.out.drew HB.out.drew HF)
          clear H HF
          have db : decide (b < 0) = true := decide_eq_true hb0
          have da : decide (a < (s.size : Int)) = false := decide_eq_false ha
          clear hb0 ha
          go_wp2
          go_region
          go_wp2_with fail
          refine CF.out.mono ?_
          rintro e w3 ⟨rfl, i3, b3, k3⟩
          have I3 := Lib.hid i3
          have B3 := Lib.hid b3
          have K3 := Lib.hid k3
          clear i3 b3 k3
          go_wp2
          go_ret
          exact ⟨rfl, I3.out, B3.out, (keep_drew HKb.out).trans K3.out (.inl rfl)⟩
      · rw [if_neg (fun hh => hb0 hh.1)] at H
        obtain ⟨⟨t1, t2, t3⟩, HF, HR⟩ := Option.bind_eq_some_iff.mp H
        simp only [Option.some.injEq, Prod.mk.injEq] at HR
        obtain ⟨rfl, rfl, rfl, rfl⟩ := HR
        have CF := Lib.hid (labels_reader_fail.calls g s a b (s.size : Int) t1 t2 t3 w0 wr.drew HI.out.drew HB.out.drew HF)
        clear H HF
        have db : decide (b < 0) = false := decide_eq_false hb0
        clear hb0
        go_wp2
        go_region
        go_wp2_with fail
        refine CF.out.mono ?_
        rintro e w3 ⟨rfl, i3, b3, k3⟩
        have I3 := Lib.hid i3
        have B3 := Lib.hid b3
        have K3 := Lib.hid k3
        clear i3 b3 k3
        go_wp2
        go_ret
        exact ⟨rfl, I3.out, B3.out, (keep_drew HKb.out).trans K3.out (.inl rfl)⟩
end Go.Proofs.YtfkgbklkjnhipaaGreatDoor.P
