/- Contracts of leaves, in the printer's form: (*labels.reader).name. -/
import Derived.Test.YtfkgbklkjnhipaaGreatDoorPx7
import Derived.Test.YtfkgbklkjnhipaaGreatDoorPx3
import Derived.Test.YtfkgbklkjnhipaaGreatDoorGa
import Derived.Test.YtfkgbklkjnhipaaGreatDoorGd
import Derived.Lib.Hide
import Derived.RegionTactic
import Derived.RegionCalls
import Derived.Deep.RegionWith
import Derived.Deep.QuietTactic
import Derived.BigQuiet
namespace Go.Proofs.YtfkgbklkjnhipaaGreatDoor.P
open BigFrame Go.RowKit Go.Proofs.YtfkgbklkjnhipaaGreatDoorW.PrintWords Go.Proofs.YtfkgbklkjnhipaaGreatDoorW.PrintLast Go.Proofs.YtfkgbklkjnhipaaGreatDoorW.PrintMore
set_option linter.unusedVariables false
set_option linter.unusedSimpArgs false

/-- Where the run of a name's signs ends. -/
def labels_reader_name.l0 : Nat → Bool → ByteArray → Int → Option Int
  | 0, _, _, _ => none
  | k + 1, colon, s, a => if a < (s.size : Int) then (if 0 ≤ a then (if okB colon (bt s a) = true then labels_reader_name.l0 k colon s (a + 1) else some a) else none) else some a
def nameOk (colon : Bool) (u : ByteArray) : Bool := if colon then namedB u 256 true else namedB u 64 false
def labels_reader_name.f (k : Nat) (s0_0 : ByteArray) (s0_1 : Int) (s0_2 : Int) (a1 : Bool) : Option (ByteArray × ByteArray × Int × Int) :=
  if s0_2 ≥ 0 then some ((⟨#[]⟩ : ByteArray), s0_0, s0_1, s0_2)
  else (labels_reader_blanks.f k s0_0 s0_1 s0_2).bind fun t =>
    if t.2.2 < 0 ∧ 0 ≤ t.2.1 ∧ t.2.1 ≤ (t.1.size : Int) ∧ t.1.size ≤ 9223372036854775800 then
      (labels_reader_name.l0 k a1 t.1 t.2.1).bind fun e =>
        if t.2.1 ≤ e ∧ e ≤ (t.1.size : Int) then
          some (t.1.extract t.2.1.toNat e.toNat, t.1, e, if nameOk a1 (t.1.extract t.2.1.toNat e.toNat) = true then t.2.2 else if e = t.2.1 then e else t.2.1)
        else none
    else none
theorem labels_reader_name.mono_l : ∀ k colon s a, LeO (labels_reader_name.l0 k colon s a) (labels_reader_name.l0 (k + 1) colon s a)
  | 0, _, _, _ => fun r h => by simp [labels_reader_name.l0] at h
  | k + 1, colon, s, a => fun r h => by
    have ih := labels_reader_name.mono_l k
    unfold labels_reader_name.l0 at h ⊢
    split at h
    · rename_i h1
      rw [if_pos h1]
      split at h
      · rename_i h2
        rw [if_pos h2]
        split at h
        · rename_i h3; rw [if_pos h3]; exact ih _ _ _ r h
        · rename_i h3; rw [if_neg h3]; exact h
      · cases h
    · rename_i h1
      rw [if_neg h1]; exact h
theorem labels_reader_name.mono : ∀ a0 a1 a2 a3 k, LeO (labels_reader_name.f k a0 a1 a2 a3) (labels_reader_name.f (k + 1) a0 a1 a2 a3) := by
  intro a0 a1 a2 a3 k r h
  unfold labels_reader_name.f at h ⊢
  split at h
  · rename_i h1; rw [if_pos h1]; exact h
  · rename_i h1
    rw [if_neg h1]
    obtain ⟨t, h2, h3⟩ := Option.bind_eq_some_iff.mp h
    rw [labels_reader_blanks.mono _ _ _ k t h2]
    simp only [Option.bind_some] at h3 ⊢
    split at h3
    · rename_i h4
      rw [if_pos h4]
      obtain ⟨e, h5, h6⟩ := Option.bind_eq_some_iff.mp h3
      rw [labels_reader_name.mono_l k _ _ _ e h5]
      exact h6
    · cases h3

/-- What the walk needs of the letters' and digits' tests, at a known answer. -/
theorem letter_is {c : Int} {x : Bool} (h : letterB c = x) (w : World) : Calls Tryz.prog 134 #[.int .u8 c] w fun e w' => e = .returned (.bool x) ∧ w' = w := by
  subst h
  exact (letter_any c w).mono fun _ _ h_ => ⟨h_.1, h_.2.symm⟩
theorem digit_is {c : Int} {x : Bool} (h : digitB c = x) (w : World) : Calls Tryz.prog 133 #[.int .u8 c] w fun e w' => e = .returned (.bool x) ∧ w' = w := by
  subst h
  exact (digit_any c w).mono fun _ _ h_ => ⟨h_.1, h_.2.symm⟩
theorem okB_of {c : Int} {colon x y d : Bool} (h1 : letterB c = x) (h2 : digitB c = y) (h3 : (c == 58) = d) : okB colon c = (x || y || (colon && d)) := by unfold okB; rw [h1, h2, h3]
theorem name_is {s : ByteArray} {x : Bool} (h : namedB s 64 false = x) (w : World) : Calls Tryz.prog 21 #[.string s] w fun e w' => e = .returned (.bool x) ∧ Below w.heap.size w w' :=
  labels_Name.calls s x w (by rw [← h]; rfl)
theorem metric_is {s : ByteArray} {x : Bool} (h : namedB s 256 true = x) (w : World) : Calls Tryz.prog 23 #[.string s] w fun e w' => e = .returned (.bool x) ∧ Below w.heap.size w w' :=
  labels_Metric.calls s x w (by rw [← h]; rfl)

set_option maxRecDepth 100000 in
set_option maxHeartbeats 20000000 in
theorem labels_reader_name.calls (k : Nat) (g : Nat) (s0_0 : ByteArray) (s0_1 : Int) (s0_2 : Int) (a1 : Bool) (r1 : ByteArray) (r2 : ByteArray) (r3 : Int) (r4 : Int) (w0 w : World) (hI : IsS119 w0 w g s0_0 s0_1 s0_2) (hB : Below w0.heap.size w0 w) (h : labels_reader_name.f k s0_0 s0_1 s0_2 a1 = some (r1, r2, r3, r4)) :
    Calls Tryz.prog 85 #[.pointer (some ⟨g, 0, none⟩), .bool a1] w fun e w' => e = .returned (.string r1) ∧ IsS119 w0 w' g r2 r3 r4 ∧ Below w0.heap.size w0 w' ∧ KeepBut w w' g none := by
  have HI := Lib.hid hI
  have HB := Lib.hid hB
  have c2 : w.cell? ⟨g, 2, none⟩ = some (.int .i64 s0_2) := cellE hI.1 2 rfl
  have H := Lib.hid h
  clear hI hB h
  by_cases hb : s0_2 ≥ 0
  · have h := H.out
    unfold labels_reader_name.f at h
    rw [if_pos hb] at h
    simp only [Option.some.injEq, Prod.mk.injEq] at h
    obtain ⟨rfl, rfl, rfl, rfl⟩ := h
    clear H
    go_enter Tryz.func85, Tryz.ntmps85
    go_wp2
    go_ret
    exact ⟨rfl, HI.out, HB.out, KeepBut.refl _ _ _⟩
  · have h := H.out
    unfold labels_reader_name.f at h
    rw [if_neg hb] at h
    obtain ⟨⟨s, a, b⟩, hbl, hx_⟩ := Option.bind_eq_some_iff.mp h
    clear h
    have h := hx_
    clear hx_
    simp only at h
    by_cases hc : b < 0 ∧ 0 ≤ a ∧ a ≤ (s.size : Int) ∧ s.size ≤ 9223372036854775800
    · rw [if_pos hc] at h
      obtain ⟨e, hl, hx_⟩ := Option.bind_eq_some_iff.mp h
      clear h
      have h := hx_
      clear hx_
      obtain ⟨hb0, ha0, has, hsz⟩ := hc
      have CB := Lib.hid (labels_reader_blanks.calls k g s0_0 s0_1 s0_2 s a b w0 w HI.out HB.out hbl)
      have HL := Lib.hid hl
      have HH := Lib.hid h
      have HA0 := Lib.hid ha0
      have HAS := Lib.hid has
      have HB0 := Lib.hid hb0
      clear hbl hl h H hb0 has
      go_enter Tryz.func85, Tryz.ntmps85
      go_upto_block 0 with (go_at_call 84; refine CB.out.mono ?_; rintro e' w1 ⟨rfl, i1, b1, k1⟩; have c1' : w1.cell? ⟨g, 1, none⟩ = some (.int .i64 a) := cellE i1.1 1 rfl; have I1 := Lib.hid i1; have B1 := Lib.hid b1; have K1 := Lib.hid k1; clear i1 b1 k1)
      (try simp only [Act.put, List.setIfInBounds_toArray, List.set_cons_zero, List.set_cons_succ])
      clear c1' c2 hb
      go_cut [] (fun wc => Hid (IsS119 w0 wc g s e b) ∧ Hid (Below w0.heap.size w0 wc) ∧ Hid (KeepBut w wc g none))
      case first =>
        clear HH
        go_wp2
        go_loopg [] k (fun kq wr => ∃ a' : Int, Hid (labels_reader_name.l0 kq a1 s a' = some e) ∧ Hid (kq ≤ k) ∧ 0 ≤ a' ∧ Hid (IsS119 w0 wr g s a' b) ∧ Hid (Below w0.heap.size w0 wr) ∧ Hid (KeepBut w wr g none))
        case atStart => exact ⟨a, HL, Nat.le_refl _, ha0, I1, B1, K1⟩
        case round =>
          obtain ⟨a', HA, HK, h0, HI', HB', HK'⟩ := hrel
          clear HL I1 B1 K1 ha0 HB
          cases gk with
          | zero => exact absurd HA.out (by simp [labels_reader_name.l0])
          | succ k1 =>
            have H := HA.out
            clear HA
            unfold labels_reader_name.l0 at H
            have c0 : wr.cell? ⟨g, 0, none⟩ = some (.string s) := cellE HI'.out.1 0 rfl
            have c1 : wr.cell? ⟨g, 1, none⟩ = some (.int .i64 a') := cellE HI'.out.1 1 rfl
            have f1 : wr.frozen? ⟨g, 1, none⟩ = false := by simp [World.frozen?, HI'.out.1]
            by_cases hlt : a' < (s.size : Int)
            · rw [if_pos hlt, if_pos h0] at H
              have da : decide (a' < (s.size : Int)) = true := decide_eq_true hlt
              have hx := bt_at s a'
              have hwr : wrap64 (a' + 1) = a' + 1 := by unfold wrap64; omega
              have J1 := Lib.hid (fun n => IsS119.set_1 (HI'.out.drewN n) (a' + 1))
              have J2 := Lib.hid (fun n => (pw_below_drewN HB'.out n).setCell (p := ⟨g, 1, none⟩) HI'.out.2 (.int .i64 (a' + 1)))
              have J3 := Lib.hid (fun n => (keep_drewN HK'.out n).set_ 1 (.int .i64 (a' + 1)))
              have HPOS := Lib.hid h0
              replace h0 := eq_true h0
              replace hlt := eq_true hlt
              cases hl : letterB (bt s a') <;> cases hdg : digitB (bt s a') <;> cases colon_ : a1 <;> cases h58 : (bt s a' == 58)
              all_goals
                have HO := Lib.hid (okB_of (colon := a1) hl hdg h58)
                have CL := Lib.hid (letter_is hl)
                have CD := Lib.hid (digit_is hdg)
                have HH' := Lib.hid H
                clear H hl hdg
                subst colon_
                go_wp2
                go_big_quiet (first | (go_at_call 134; exact Calls.quiet_of_same (CL.out _)) | (go_at_call 133; exact Calls.quiet_of_same (CD.out _)))
                go_wp2
                first
                | (go_roundg k1
                   case measure => have := HK.out; omega
                   case rel => exact ⟨a' + 1, (by have h1 := HH'.out; rw [if_pos (by rw [HO.out]; rfl)] at h1; exact h1), by have := HK.out; show _ ≤ _; omega, by have := HPOS.out; omega, J1.out _, J2.out _, J3.out _⟩)
                | (go_meet
                   case rel => 
                     have he : e = a' := by
                       have h1 := HH'.out
                       rw [if_neg (by rw [HO.out]; decide)] at h1
                       exact (Option.some.inj h1).symm
                     subst he
                     exact ⟨HI'.out.drewN _, pw_below_drewN HB'.out _, keep_drewN HK'.out _⟩)
            · rw [if_neg hlt] at H
              obtain rfl : a' = e := Option.some.inj H
              have da : decide (a' < (s.size : Int)) = false := decide_eq_false hlt
              clear H
              go_wp2
              go_big_quiet (fail)
              go_wp2
              go_meet
              case rel => exact ⟨HI'.out.drewN _, pw_below_drewN HB'.out _, keep_drewN HK'.out _⟩
      case rest =>
        clear I1 B1 K1 HL CB HI HB ha0 hsz
        obtain ⟨HI', HB', HK'⟩ := hcut
        have h := HH.out
        clear HH
        by_cases he : a ≤ e ∧ e ≤ (s.size : Int)
        · rw [if_pos he] at h
          simp only [Option.some.injEq, Prod.mk.injEq] at h
          obtain ⟨rfl, rfl, rfl, hr4⟩ := h
          have HE := Lib.hid he
          have HR := Lib.hid hr4
          clear hr4
          have c0 : wc.cell? ⟨g, 0, none⟩ = some (.string s) := cellE HI'.out.1 0 rfl
          have c1 : wc.cell? ⟨g, 1, none⟩ = some (.int .i64 e) := cellE HI'.out.1 1 rfl
          have h0 := eq_true HA0.out
          have h1 := eq_true he.1
          have h2 := eq_true he.2
          have h3 := decide_eq_true HA0.out
          have h4 := decide_eq_true he.1
          have h5 := decide_eq_true he.2
          clear he
          go_wp2
          go_big_quiet (fail)
          clear h0 h1 h2 h3 h4 h5 c0 c1
          generalize hu : s.extract a.toNat e.toNat = u
          rw [hu] at HR
          have HU := Lib.hid hu
          clear hu
          have I2 := Lib.hid (HI'.out.drewN nq)
          have B2 := Lib.hid (pw_below_drewN HB'.out nq)
          have K2 := Lib.hid (keep_drewN HK'.out nq)
          clear HI' HB' HK'
          generalize wc.drewN nq = w2 at I2 B2 K2 ⊢
          cases hn : nameOk a1 u <;> cases colon_ : a1
          all_goals
            subst colon_
            have CN : Hid (∀ w, Calls Tryz.prog 21 #[.string u] w fun e w' => e = .returned (.bool (namedB u 64 false)) ∧ Below w.heap.size w w') := fun w => name_is rfl w
            have CM : Hid (∀ w, Calls Tryz.prog 23 #[.string u] w fun e w' => e = .returned (.bool (namedB u 256 true)) ∧ Below w.heap.size w w') := fun w => metric_is rfl w
            simp only [nameOk, Bool.false_eq_true, if_false, if_true] at hn
            first
            | rw [hn] at CN
            | rw [hn] at CM
            have HN := Lib.hid hn
            clear hn
          · by_cases hea : e = a
            · have q1 : u.toList = [] := toList_nil u (by rw [← HU.out, hea]; simp)
              have q2 : u.toList.isEmpty = true := by rw [q1]; rfl
              go_wp2_with fail
              refine (CN.out _).mono ?_
              rintro e' w3 ⟨rfl, b3⟩
              have I3 := Lib.hid (IsS119.below I2.out b3)
              have B3 := Lib.hid (B2.out.trans (b3.mono B2.out.size))
              have K3 := Lib.hid (K2.out.trans (KeepBut.of_below b3 g none) (.inl rfl))
              have c1 : w3.cell? ⟨g, 1, none⟩ = some (.int .i64 e) := cellE I3.out.1 1 rfl
              clear b3
              clear CN CM
              have F1 := Lib.hid (labels_reader_fail.calls g s e b e s e e w0 w3 I3.out B3.out (by simp [labels_reader_fail.f, HB0.out]))
              have HEA := Lib.hid hea
              clear hea
              go_wp2_with fail
              refine F1.out.mono ?_
              rintro e' w4 ⟨rfl, i4, b4, k4⟩
              have F2 := Lib.hid (labels_reader_fail.calls g s e e a s e e w0 w4 i4 b4 (by have := HEA.out; have := HA0.out; simp only [labels_reader_fail.f]; rw [if_neg (by omega)]))
              have K4 := Lib.hid (K3.out.trans k4 (.inl rfl))
              clear i4 b4 k4 F1 q1 q2 c1
              go_wp2_with fail
              refine F2.out.mono ?_
              rintro e' w5 ⟨rfl, i5, b5, k5⟩
              have I5 := Lib.hid i5
              have B5 := Lib.hid b5
              have K5 := Lib.hid k5
              clear i5 b5 k5 F2
              go_wp2
              go_ret
              have hr : r4 = e := by have := HR.out; rw [if_neg (by simp only [nameOk, Bool.false_eq_true, if_false, if_true]; rw [HN.out]; decide), if_pos HEA.out] at this; exact this.symm
              exact ⟨by rw [HU.out]; rfl, by rw [hr]; exact I5.out, B5.out, K4.out.trans K5.out (.inl rfl)⟩
            · have hpos : 0 < u.size := by have := HE.out; have := HA0.out; rw [← HU.out, ByteArray.size_extract]; omega
              have q2 : u.toList.isEmpty = false := toList_ne u hpos
              have q1 : ¬ u.toList = [] := fun h_ => by rw [h_] at q2; cases q2
              go_wp2_with fail
              refine (CN.out _).mono ?_
              rintro e' w3 ⟨rfl, b3⟩
              have I3 := Lib.hid (IsS119.below I2.out b3)
              have B3 := Lib.hid (B2.out.trans (b3.mono B2.out.size))
              have K3 := Lib.hid (K2.out.trans (KeepBut.of_below b3 g none) (.inl rfl))
              have c1 : w3.cell? ⟨g, 1, none⟩ = some (.int .i64 e) := cellE I3.out.1 1 rfl
              clear b3
              clear CN CM
              have F1 := Lib.hid (labels_reader_fail.calls g s e b a s e a w0 w3 I3.out B3.out (by simp [labels_reader_fail.f, HB0.out]))
              have HEA := Lib.hid hea
              clear hea hpos
              go_wp2_with fail
              refine F1.out.mono ?_
              rintro e' w4 ⟨rfl, i4, b4, k4⟩
              have I4 := Lib.hid i4
              have B4 := Lib.hid b4
              have K4 := Lib.hid (K3.out.trans k4 (.inl rfl))
              clear i4 b4 k4 F1 q1 q2 c1
              go_wp2
              go_ret
              have hr : r4 = a := by have := HR.out; rw [if_neg (by simp only [nameOk, Bool.false_eq_true, if_false, if_true]; rw [HN.out]; decide), if_neg HEA.out] at this; exact this.symm
              exact ⟨by rw [HU.out]; rfl, by rw [hr]; exact I4.out, B4.out, K4.out⟩
          · by_cases hea : e = a
            · have q1 : u.toList = [] := toList_nil u (by rw [← HU.out, hea]; simp)
              have q2 : u.toList.isEmpty = true := by rw [q1]; rfl
              go_wp2_with fail
              refine (CM.out _).mono ?_
              rintro e' w3 ⟨rfl, b3⟩
              have I3 := Lib.hid (IsS119.below I2.out b3)
              have B3 := Lib.hid (B2.out.trans (b3.mono B2.out.size))
              have K3 := Lib.hid (K2.out.trans (KeepBut.of_below b3 g none) (.inl rfl))
              have c1 : w3.cell? ⟨g, 1, none⟩ = some (.int .i64 e) := cellE I3.out.1 1 rfl
              clear b3
              clear CN CM
              have F1 := Lib.hid (labels_reader_fail.calls g s e b e s e e w0 w3 I3.out B3.out (by simp [labels_reader_fail.f, HB0.out]))
              have HEA := Lib.hid hea
              clear hea
              go_wp2_with fail
              refine F1.out.mono ?_
              rintro e' w4 ⟨rfl, i4, b4, k4⟩
              have F2 := Lib.hid (labels_reader_fail.calls g s e e a s e e w0 w4 i4 b4 (by have := HEA.out; have := HA0.out; simp only [labels_reader_fail.f]; rw [if_neg (by omega)]))
              have K4 := Lib.hid (K3.out.trans k4 (.inl rfl))
              clear i4 b4 k4 F1 q1 q2 c1
              go_wp2_with fail
              refine F2.out.mono ?_
              rintro e' w5 ⟨rfl, i5, b5, k5⟩
              have I5 := Lib.hid i5
              have B5 := Lib.hid b5
              have K5 := Lib.hid k5
              clear i5 b5 k5 F2
              go_wp2
              go_ret
              have hr : r4 = e := by have := HR.out; rw [if_neg (by simp only [nameOk, Bool.false_eq_true, if_false, if_true]; rw [HN.out]; decide), if_pos HEA.out] at this; exact this.symm
              exact ⟨by rw [HU.out]; rfl, by rw [hr]; exact I5.out, B5.out, K4.out.trans K5.out (.inl rfl)⟩
            · have hpos : 0 < u.size := by have := HE.out; have := HA0.out; rw [← HU.out, ByteArray.size_extract]; omega
              have q2 : u.toList.isEmpty = false := toList_ne u hpos
              have q1 : ¬ u.toList = [] := fun h_ => by rw [h_] at q2; cases q2
              go_wp2_with fail
              refine (CM.out _).mono ?_
              rintro e' w3 ⟨rfl, b3⟩
              have I3 := Lib.hid (IsS119.below I2.out b3)
              have B3 := Lib.hid (B2.out.trans (b3.mono B2.out.size))
              have K3 := Lib.hid (K2.out.trans (KeepBut.of_below b3 g none) (.inl rfl))
              have c1 : w3.cell? ⟨g, 1, none⟩ = some (.int .i64 e) := cellE I3.out.1 1 rfl
              clear b3
              clear CN CM
              have F1 := Lib.hid (labels_reader_fail.calls g s e b a s e a w0 w3 I3.out B3.out (by simp [labels_reader_fail.f, HB0.out]))
              have HEA := Lib.hid hea
              clear hea hpos
              go_wp2_with fail
              refine F1.out.mono ?_
              rintro e' w4 ⟨rfl, i4, b4, k4⟩
              have I4 := Lib.hid i4
              have B4 := Lib.hid b4
              have K4 := Lib.hid (K3.out.trans k4 (.inl rfl))
              clear i4 b4 k4 F1 q1 q2 c1
              go_wp2
              go_ret
              have hr : r4 = a := by have := HR.out; rw [if_neg (by simp only [nameOk, Bool.false_eq_true, if_false, if_true]; rw [HN.out]; decide), if_neg HEA.out] at this; exact this.symm
              exact ⟨by rw [HU.out]; rfl, by rw [hr]; exact I4.out, B4.out, K4.out⟩
          · go_wp2_with fail
            refine (CN.out _).mono ?_
            rintro e' w3 ⟨rfl, b3⟩
            have I3 := Lib.hid (IsS119.below I2.out b3)
            have B3 := Lib.hid (B2.out.trans (b3.mono B2.out.size))
            have K3 := Lib.hid (K2.out.trans (KeepBut.of_below b3 g none) (.inl rfl))
            have c1 : w3.cell? ⟨g, 1, none⟩ = some (.int .i64 e) := cellE I3.out.1 1 rfl
            clear b3
            go_wp2
            go_ret
            have hr : r4 = b := by have := HR.out; rw [if_pos (by simp only [nameOk, Bool.false_eq_true, if_false, if_true]; rw [HN.out])] at this; exact this.symm
            exact ⟨by rw [HU.out]; rfl, by rw [hr]; exact I3.out, B3.out, K3.out⟩
          · go_wp2_with fail
            refine (CM.out _).mono ?_
            rintro e' w3 ⟨rfl, b3⟩
            have I3 := Lib.hid (IsS119.below I2.out b3)
            have B3 := Lib.hid (B2.out.trans (b3.mono B2.out.size))
            have K3 := Lib.hid (K2.out.trans (KeepBut.of_below b3 g none) (.inl rfl))
            have c1 : w3.cell? ⟨g, 1, none⟩ = some (.int .i64 e) := cellE I3.out.1 1 rfl
            clear b3
            go_wp2
            go_ret
            have hr : r4 = b := by have := HR.out; rw [if_pos (by simp only [nameOk, Bool.false_eq_true, if_false, if_true]; rw [HN.out])] at this; exact this.symm
            exact ⟨by rw [HU.out]; rfl, by rw [hr]; exact I3.out, B3.out, K3.out⟩
        · rw [if_neg he] at h; cases h
    · rw [if_neg hc] at h; cases h
end Go.Proofs.YtfkgbklkjnhipaaGreatDoor.P
