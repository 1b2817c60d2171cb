/- Contract of labels.Parse, in the printer's form (its state is a variable of the call's own). -/
import Derived.Test.YtfkgbklkjnhipaaGreatDoorPx7
import Derived.Test.YtfkgbklkjnhipaaGreatDoorPx8
import Derived.Test.YtfkgbklkjnhipaaGreatDoorPx9
import Derived.Test.YtfkgbklkjnhipaaGreatDoorPx15
import Derived.Test.YtfkgbklkjnhipaaGreatDoorPx4
import Derived.Test.YtfkgbklkjnhipaaGreatDoorGj
import Derived.Lib.Hide
import Derived.RegionTactic
namespace Go.Proofs.YtfkgbklkjnhipaaGreatDoor.P
open BigFrame Go.RowKit Go.Proofs.YtfkgbklkjnhipaaGreatDoorW.PrintWords Go.Proofs.YtfkgbklkjnhipaaGreatDoorW.PrintLast Go.Proofs.YtfkgbklkjnhipaaGreatDoorW.PrintMore
set_option linter.unusedVariables false
set_option linter.unusedSimpArgs false

abbrev metricName : ByteArray := ⟨#[95, 95, 110, 97, 109, 101, 95, 95]⟩
def labels_Parse.opens (s : ByteArray) (a : Int) : Option Bool := if a < (s.size : Int) then (if 0 ≤ a then some (bt s a == 123) else none) else some false
def labels_Parse.p4 (k : Nat) (l : List S67) (b : Int) : Option (List S67 × Int × Int) :=
  if b ≥ 0 then some ([], 3, b) else (labels_sorted.f k l).bind fun o => if o.2 = true then some ([], 6, 0) else (labels_Right.f k o.1).bind fun e => if e.1 = 0 then some (o.1, 0, 0) else some ([], e.1, e.2)
def labels_Parse.p3 (k : Nat) (a0 : ByteArray) (l : List S67) (s : ByteArray) (a b : Int) : Option (List S67 × Int × Int) :=
  (labels_reader_blanks.f k s a b).bind fun t => if t.2.2 < 0 then (if t.2.1 < (a0.size : Int) then (labels_reader_fail.f t.1 t.2.1 t.2.2 t.2.1).bind fun u => labels_Parse.p4 k l u.2.2 else labels_Parse.p4 k l t.2.2) else labels_Parse.p4 k l t.2.2
def labels_Parse.p2 (k : Nat) (a0 : ByteArray) (l : List S67) (s : ByteArray) (a b : Int) : Option (List S67 × Int × Int) :=
  (labels_reader_next.f k s a b 123).bind fun x => if x.1 = true then ((labels_reader_braces.f k x.2.1 x.2.2.1 x.2.2.2).bind fun q => if l.length + q.1.length < 4398046511104 then labels_Parse.p3 k a0 (l ++ q.1) q.2.1 q.2.2.1 q.2.2.2 else none) else labels_Parse.p3 k a0 l x.2.1 x.2.2.1 x.2.2.2
def labels_Parse.f (k : Nat) (a0 : ByteArray) : Option (List S67 × Int × Int) :=
  if (a0.size : Int) > 65536 then some ([], 4, 0)
  else (labels_reader_blanks.f k a0 0 (-1)).bind fun t => (labels_Parse.opens a0 t.2.1).bind fun br =>
    if br = true then labels_Parse.p2 k a0 [] t.1 t.2.1 t.2.2
    else (labels_reader_name.f k t.1 t.2.1 t.2.2 true).bind fun n => (labels_reader_blanks.f k n.2.1 n.2.2.1 n.2.2.2).bind fun u => labels_Parse.p2 k a0 [⟨metricName, n.1⟩] u.1 u.2.1 u.2.2

theorem labels_Parse.mono : ∀ a0 k, LeO (labels_Parse.f k a0) (labels_Parse.f (k + 1) a0) := by
  intro a0 k
  unfold labels_Parse.f labels_Parse.p2 labels_Parse.p3 labels_Parse.p4
  repeat' first
    | (with_reducible exact LeO.refl _)
    | (with_reducible exact labels_reader_blanks.mono _ _ _ _)
    | (with_reducible exact labels_reader_name.mono _ _ _ _ _)
    | (with_reducible exact labels_reader_next.mono _ _ _ _ _)
    | (with_reducible exact labels_reader_braces.mono _ _ _ _)
    | (with_reducible exact labels_sorted.mono _ _)
    | (with_reducible exact labels_Right.mono _ _)
    | (with_reducible exact LeO.none _)
    | (with_reducible refine LeO.ite ?_ ?_)
    | (with_reducible refine LeO.bind ?_ (fun _ => ?_))

theorem stop_here {p : Prop} (h : Aside0 p) : p := h.out
/-- What stands in the walk between two pieces: the labels, the reader, and what is left to be told. -/
structure ParseAt (k : Nat) (w wc : World) (v : Value) (l : List S67) (s : ByteArray) (a b : Int) : Prop where
  R : Kd.R k67 67 wc w.heap.size (fun k => k ≠ w.heap.size) v l
  I : IsS119 w wc w.heap.size s a b
  B : Below w.heap.size w wc
/-- .. behind a call of the reader. -/
theorem ParseAt.step {k : Nat} {w wc w1 : World} {v : Value} {l : List S67} {s s1 : ByteArray} {a b a1 b1 : Int} (h : ParseAt k w wc v l s a b) (i : IsS119 w w1 w.heap.size s1 a1 b1) (hb : Below w.heap.size w w1) (hk : KeepBut wc w1 w.heap.size none) : ParseAt k w w1 v l s1 a1 b1 :=
  ⟨Kd.R_keep h.R hk (fun _ h => h), i, hb⟩
theorem ParseAt.drewN {k : Nat} {w wc : World} {v : Value} {l : List S67} {s : ByteArray} {a b : Int} (h : ParseAt k w wc v l s a b) (n : Nat) : ParseAt k w (wc.drewN n) v l s a b :=
  ⟨Kd.R_drewN h.R n, h.I.drewN n, pw_below_drewN h.B n⟩

set_option maxRecDepth 100000 in
set_option maxHeartbeats 8000000 in
theorem labels_Parse.calls (k : Nat) (a0 : ByteArray) (r1 : List (S67)) (r2 : Int) (r3 : Int) (w : World) (h : labels_Parse.f k a0 = some (r1, r2, r3)) (hT : Tabs w) :
    Calls Tryz.prog 29 #[.string a0] w fun e w' => ∃ v0_ : Value, e = .returned (.tuple #[v0_, .int .i64 r2, .int .i64 r3]) ∧ Kd.R k67 67 w' w.heap.size (fun _ => True) v0_ r1 ∧ Below w.heap.size w w' := by
  have HT := Lib.hid hT
  have H := Lib.hid h
  clear h hT
  by_cases hs : (a0.size : Int) > 65536
  · have h := H.out
    unfold labels_Parse.f at h
    rw [if_pos hs] at h
    simp only [Option.some.injEq, Prod.mk.injEq] at h
    obtain ⟨rfl, rfl, rfl⟩ := h
    have hd : decide ((65536 : Int) < (a0.size : Int)) = true := decide_eq_true hs
    clear H hs
    go_enter Tryz.func29, Tryz.ntmps29
    go_wp2
    go_ret3
    exact ⟨_, rfl, Kd.R_nil _ _ _ _ _, Below.refl _ _⟩
  · have h := H.out
    unfold labels_Parse.f at h
    rw [if_neg hs] at h
    obtain ⟨⟨s1, a1, b1⟩, h1, h2⟩ := Option.bind_eq_some_iff.mp h
    clear h
    have hd : decide ((65536 : Int) < (a0.size : Int)) = false := decide_eq_false hs
    have HS := Lib.hid hs
    have H1 := Lib.hid h1
    have H2 := Lib.hid h2
    clear H h1 h2 hs
    go_enter Tryz.func29, Tryz.ntmps29
    go_wp2_with fail
    have I0 := Lib.hid (IsS119.new w w a0 0 (-1) (Below.refl _ _))
    have B0 := Lib.hid (below_alloc (Below.refl w.heap.size w) (.cells #[.string a0, .int .i64 0, .int .i64 (-1)] 119))
    refine (labels_reader_blanks.calls k w.heap.size a0 0 (-1) s1 a1 b1 w _ I0.out B0.out H1.out).mono ?_
    rintro e w1 ⟨rfl, i1, b1', k1⟩
    have P1 : Hid (ParseAt k w w1 (.slice none 0 0) [] s1 a1 b1) := ⟨Kd.R_nil _ _ _ _ _, i1, b1'⟩
    have c1 : w1.cell? ⟨w.heap.size, 1, none⟩ = some (.int .i64 a1) := cellE i1.1 1 rfl
    clear I0 B0 H1 i1 b1' k1
    obtain ⟨br, h3, h4⟩ := Option.bind_eq_some_iff.mp H2.out
    clear H2
    have H3 := Lib.hid h3
    have H4 := Lib.hid h4
    clear h3 h4
    go_upto_region 6 with (fail)
    go_cut [7] (fun v7 wc => v7 = .bool br ∧ Hid (ParseAt k w wc (.slice none 0 0) [] s1 a1 b1))
    case first =>
      clear H4
      have h3 := H3.out
      clear H3
      unfold labels_Parse.opens at h3
      by_cases hlt : a1 < (a0.size : Int)
      · rw [if_pos hlt] at h3
        by_cases h0 : 0 ≤ a1
        · rw [if_pos h0] at h3
          have hx := bt_at a0 a1
          have da : decide (a1 < (a0.size : Int)) = true := decide_eq_true hlt
          replace hlt := eq_true hlt
          replace h0 := eq_true h0
          cases hb : (bt a0 a1 == 123) <;> rw [hb] at h3 <;> obtain rfl := Option.some.inj h3
          all_goals
            clear h3
            go_wp2
            go_meet
            case rel => exact ⟨rfl, P1⟩
        · rw [if_neg h0] at h3; cases h3
      · rw [if_neg hlt] at h3
        obtain rfl := Option.some.inj h3
        have da : decide (a1 < (a0.size : Int)) = false := decide_eq_false hlt
        clear h3 hlt
        go_wp2
        go_meet
        case rel => exact ⟨rfl, P1⟩
    case rest =>
      obtain ⟨rfl, PC⟩ := hcut
      clear P1 c1 H3
      go_upto_if 37 with (fail)
      go_cut [6] (fun v6 wd => ∃ (l : List S67) (s : ByteArray) (a b : Int), Hid (ParseAt k w wd v6 l s a b) ∧ Hid (labels_Parse.p2 k a0 l s a b = some (r1, r2, r3)))
      case first =>
        cases br
        · have h4 := H4.out
          clear H4
          rw [if_neg (by decide)] at h4
          obtain ⟨⟨nv, s2, a2, b2⟩, h5, h6⟩ := Option.bind_eq_some_iff.mp h4
          obtain ⟨⟨s3, a3, b3⟩, h7, h8⟩ := Option.bind_eq_some_iff.mp h6
          have H5 := Lib.hid h5
          have H7 := Lib.hid h7
          have H8 := Lib.hid h8
          clear h4 h5 h6 h7 h8
          go_wp2_with fail
          refine (labels_reader_name.calls k w.heap.size s1 a1 b1 true nv s2 a2 b2 w _ PC.out.I PC.out.B H5.out).mono ?_
          rintro e w2 ⟨rfl, i2, b2', k2⟩
          have P2 := Lib.hid (PC.out.step i2 b2' k2)
          clear i2 b2' k2 H5 PC
          go_wp2_with ((with_reducible refine gate_builtin (b := .append) (xs := #[.tmp 38, .tmp 42]) rfl ?_); at_builtin; refine stop_here ?_)
          refine ⟨?_⟩
          refine Kd.R_append k67 (w0 := w) w.heap.size rfl (.tmp 38) (.tmp 42) 41 67 (.agg #[(.string ⟨#[]⟩), (.string ⟨#[]⟩)]) 32 rfl Tryz.underlying41 info67 rfl (by decide) (by omega) (.slice none 0 0) ([] : List S67) (⟨metricName, nv⟩ : S67) [.string (⟨#[95, 95, 110, 97, 109, 101, 95, 95]⟩ : ByteArray), .string nv] (fun k => k ≠ w.heap.size) (fun _ => False) rfl rfl ?aP (fun _ hk => hk.elim) ?aF ?aO ?aB ?aS ?aL ?_
          case aP => exact k67_mkM _ _ _ (⟨metricName, nv⟩ : S67)
          case aF => exact (fun k_ hk => Nat.ne_of_gt (Nat.lt_of_lt_of_le P2.out.I.lt hk))
          case aO => exact Kd.R_nil _ _ _ _ _
          case aB => exact P2.out.B
          case aS => exact P2.out.B.size
          case aL => exact (by decide)
          intro v3 w3 hR hB hg hat
          have P3 : Hid (ParseAt k w w3 v3 [⟨metricName, nv⟩] s2 a2 b2) := ⟨hR, IsS119.grown P2.out.I hg (by simp [Value.ownBlock]), hB⟩
          clear hR hB hg hat P2
          go_wp2_with fail
          refine (labels_reader_blanks.calls k w.heap.size s2 a2 b2 s3 a3 b3 w _ P3.out.I P3.out.B H7.out).mono ?_
          rintro e w4 ⟨rfl, i4, b4', k4⟩
          have P4 := Lib.hid (P3.out.step i4 b4' k4)
          clear i4 b4' k4 P3 H7
          go_wp2
          go_meet
          case rel => exact ⟨_, s3, a3, b3, P4, H8⟩
        · have h4 := H4.out
          clear H4
          rw [if_pos rfl] at h4
          have H5 := Lib.hid h4
          clear h4
          go_wp2
          go_meet
          case rel => exact ⟨_, s1, a1, b1, PC, H5⟩
      case rest =>
        clear PC H4
        obtain ⟨l, s, a, b, PD, HP⟩ := hcut
        have hp := HP.out
        clear HP
        unfold labels_Parse.p2 at hp
        obtain ⟨⟨x, s', a', b'⟩, h5, h6⟩ := Option.bind_eq_some_iff.mp hp
        have H5 := Lib.hid h5
        have H6 := Lib.hid h6
        clear hp h5 h6
        go_upto_if 47 with (go_at_call 86; refine (labels_reader_next.calls k w.heap.size s a b 123 x s' a' b' w _ PD.out.I PD.out.B H5.out).mono ?_; rintro e w2 ⟨rfl, i2, b2', k2⟩; have P2 := Lib.hid (PD.out.step i2 b2' k2); clear i2 b2' k2)
        clear PD H5
        go_cut [6] (fun v6 wd => ∃ (l : List S67) (s : ByteArray) (a b : Int), Hid (ParseAt k w wd v6 l s a b) ∧ Hid (labels_Parse.p3 k a0 l s a b = some (r1, r2, r3)))
        case first =>
          cases x
          · have h6 := H6.out
            clear H6
            rw [if_neg (by decide)] at h6
            have H7 := Lib.hid h6
            clear h6
            go_wp2
            go_meet
            case rel => exact ⟨l, s', a', b', P2, H7⟩
          · have h6 := H6.out
            clear H6
            rw [if_pos rfl] at h6
            obtain ⟨⟨m, s3, a3, b3⟩, h7, h8⟩ := Option.bind_eq_some_iff.mp h6
            by_cases hl : l.length + m.length < 4398046511104
            · simp only at h8
              rw [if_pos hl] at h8
              have H7 := Lib.hid h7
              have H8 := Lib.hid h8
              have HL := Lib.hid hl
              clear h6 h7 h8 hl
              go_wp2_with fail
              refine (labels_reader_braces.calls k w.heap.size s' a' b' m s3 a3 b3 w _ P2.out.I P2.out.B H7.out).mono ?_
              rintro e w3 ⟨vm, rfl, rm, i3, b3', k3⟩
              have P3 := Lib.hid (P2.out.step i3 b3' k3)
              obtain ⟨Am, cm, rfl⟩ := Kd.R_slice rm
              have RM := Lib.hid rm
              clear rm i3 b3' k3 H7 P2
              go_wp2_with ((with_reducible refine gate_builtin (b := .append) (xs := #[.tmp 48, .tmp 50]) rfl ?_); at_builtin; refine stop_here ?_)
              refine ⟨?_⟩
              refine Kd.R_append_rows k67 (w0 := w) w.heap.size rfl (.tmp 48) (.tmp 50) 41 67 (.agg #[(.string ⟨#[]⟩), (.string ⟨#[]⟩)]) 32 rfl Tryz.underlying41 info67 rfl (by decide) (by omega) _ l m _ _ _ (fun k => k ≠ w.heap.size) (fun _ => False) rfl rfl ?aO ?aR (fun _ _ h => h) (fun _ h => h.elim) ?aF ?aB ?aS ?aL ?_
              case aR => exact (Kd.R_reads' RM.out).2.2
              case aF => exact (fun k_ hk => Nat.ne_of_gt (Nat.lt_of_lt_of_le P3.out.I.lt hk))
              case aO => exact P3.out.R
              case aB => exact P3.out.B
              case aS => exact P3.out.B.size
              case aL => (have := HL.out; omega)
              intro v4 w4 hR hB hg hat
              have P4 : Hid (ParseAt k w w4 v4 (l ++ m) s3 a3 b3) := ⟨hR, IsS119.grown P3.out.I hg (fun e_ => P3.out.R.1 _ e_.symm rfl), hB⟩
              clear hR hB hg hat P3 RM
              go_wp2
              go_meet
              case rel => exact ⟨_, s3, a3, b3, P4, H8⟩
            · simp only at h8
              rw [if_neg hl] at h8
              cases h8
        case rest =>
          clear P2 H6
          obtain ⟨l', s3, a3, b3, PE, HP⟩ := hcut
          have hp := HP.out
          clear HP
          unfold labels_Parse.p3 at hp
          obtain ⟨⟨s4, a4, b4⟩, h5, h6⟩ := Option.bind_eq_some_iff.mp hp
          have H5 := Lib.hid h5
          have H6 := Lib.hid h6
          clear hp h5 h6
          go_upto_region 13 with (go_at_call 84; refine (labels_reader_blanks.calls k w.heap.size s3 a3 b3 s4 a4 b4 w _ PE.out.I PE.out.B H5.out).mono ?_; rintro e w5 ⟨rfl, i5, b5', k5⟩; have P5 := Lib.hid (PE.out.step i5 b5' k5); clear i5 b5' k5)
          clear PE H5
          obtain ⟨bad, hbad⟩ : ∃ x, (decide (b4 < 0) && decide (a4 < (a0.size : Int))) = x := ⟨_, rfl⟩
          have HBAD := Lib.hid hbad
          clear hbad
          go_cut [67] (fun v67 we => v67 = .bool bad ∧ Hid (ParseAt k w we u6 l' s4 a4 b4))
          case first =>
            clear H6
            have c1 : w5.cell? ⟨w.heap.size, 1, none⟩ = some (.int .i64 a4) := cellE P5.out.I.1 1 rfl
            have c2 : w5.cell? ⟨w.heap.size, 2, none⟩ = some (.int .i64 b4) := cellE P5.out.I.1 2 rfl
            cases db : decide (b4 < 0) <;> cases da : decide (a4 < (a0.size : Int))
            all_goals
              have hbd := HBAD.out
              rw [db, da] at hbd
              simp only [Bool.and_self, Bool.and_false, Bool.false_and, Bool.and_true] at hbd
              subst hbd
              clear HBAD
              go_wp2
              go_meet
              case rel => exact ⟨rfl, P5⟩
          case rest =>
          clear P5
          obtain ⟨rfl, P5⟩ := hcut
          go_upto_if 67 with (fail)
          go_cut [] (fun we => ∃ (s : ByteArray) (a b : Int), Hid (ParseAt k w we u6 l' s a b) ∧ Hid (labels_Parse.p4 k l' b = some (r1, r2, r3)))
          case first =>
            have h6 := H6.out
            clear H6
            (try simp only at h6)
            have c1 : wc.cell? ⟨w.heap.size, 1, none⟩ = some (.int .i64 a4) := cellE P5.out.I.1 1 rfl
            cases bad
            · have H8 : Hid (labels_Parse.p4 k l' b4 = some (r1, r2, r3)) := by
                by_cases hb : b4 < 0
                · rw [if_pos hb] at h6
                  by_cases ha : a4 < (a0.size : Int)
                  · have := HBAD.out; rw [decide_eq_true hb, decide_eq_true ha] at this; cases this
                  · rw [if_neg ha] at h6; exact h6
                · rw [if_neg hb] at h6; exact h6
              clear h6 c1
              go_wp2
              go_meet
              case rel => exact ⟨s4, a4, b4, P5, H8⟩
            · have hq := HBAD.out
              rw [Bool.and_eq_true, decide_eq_true_eq, decide_eq_true_eq] at hq
              rw [if_pos hq.1, if_pos hq.2] at h6
              obtain ⟨⟨s6, a6, b6⟩, h7, h8⟩ := Option.bind_eq_some_iff.mp h6
              have H7 := Lib.hid h7
              have H8 := Lib.hid h8
              clear h6 h7 h8 hq
              go_wp2_with fail
              refine (labels_reader_fail.calls w.heap.size s4 a4 b4 a4 s6 a6 b6 w _ P5.out.I P5.out.B H7.out).mono ?_
              rintro e w6 ⟨rfl, i6, b6', k6⟩
              have P6 := Lib.hid (P5.out.step i6 b6' k6)
              clear i6 b6' k6 H7 P5 c1
              go_wp2
              go_meet
              case rel => exact ⟨s6, a6, b6, P6, H8⟩
          case rest =>
            clear P5 H6
            obtain ⟨s7, a7, b7, P7, HP⟩ := hcut
            have hp := HP.out
            clear HP
            unfold labels_Parse.p4 at hp
            have c2 : wc.cell? ⟨w.heap.size, 2, none⟩ = some (.int .i64 b7) := cellE P7.out.I.1 2 rfl
            by_cases hb : b7 ≥ 0
            · rw [if_pos hb] at hp
              simp only [Option.some.injEq, Prod.mk.injEq] at hp
              obtain ⟨rfl, rfl, rfl⟩ := hp
              have db : decide (0 ≤ b7) = true := decide_eq_true hb
              clear hb
              go_wp2
              go_big_quiet (fail)
              go_wp2
              go_ret3
              exact ⟨_, rfl, Kd.R_nil _ _ _ _ _, pw_below_drewN P7.out.B _⟩
            · rw [if_neg hb] at hp
              have db : decide (0 ≤ b7) = false := decide_eq_false hb
              obtain ⟨⟨o1, o2⟩, h5, h6⟩ := Option.bind_eq_some_iff.mp hp
              obtain ⟨Al, cl, rfl⟩ := Kd.R_slice P7.out.R
              have H5 := Lib.hid h5
              have H6 := Lib.hid h6
              have RL := Lib.hid (Kd.R_reads' P7.out.R)
              clear hp h5 h6 hb
              go_wp2_with fail
              refine (labels_sorted.calls k Al cl l' o1 o2 _ RL.out.2.2 RL.out.2.1 H5.out).mono ?_
              rintro e w8 ⟨vo, rfl, ro, bo⟩
              have B8 := Lib.hid (P7.out.B.trans (bo.mono P7.out.B.size))
              have RO := Lib.hid (Kd.R_lower ro P7.out.B.size)
              clear ro bo H5 RL c2
              have h6 := H6.out
              clear H6
              (try simp only at h6)
              cases o2
              · rw [if_neg (by decide)] at h6
                obtain ⟨⟨e1, e2⟩, h7, h8⟩ := Option.bind_eq_some_iff.mp h6
                obtain ⟨Ao, co, rfl⟩ := Kd.R_slice RO.out
                have RL := Lib.hid (Kd.R_reads' RO.out)
                have H7 := Lib.hid h7
                (try simp only at h8)
                clear h6 h7
                by_cases he : e1 = 0
                · rw [if_pos he] at h8
                  simp only [Option.some.injEq, Prod.mk.injEq] at h8
                  obtain ⟨rfl, rfl, rfl⟩ := h8
                  subst he
                  go_wp2_with fail
                  refine (labels_Right.calls k Ao co o1 0 e2 _ RL.out.2.2 RL.out.2.1 H7.out (Tabs_below HT.out B8.out)).mono ?_
                  rintro e w9 ⟨rfl, b9⟩
                  go_wp2
                  go_ret3
                  exact ⟨_, rfl, Kd.R_mono (Kd.R_below RO.out b9) (fun _ _ => trivial), B8.out.trans (b9.mono B8.out.size)⟩
                · rw [if_neg he] at h8
                  simp only [Option.some.injEq, Prod.mk.injEq] at h8
                  obtain ⟨rfl, rfl, rfl⟩ := h8
                  have q1 : (e1 == 0) = false := by simpa using he
                  have q2 : (e1 != 0) = true := by simpa using he
                  clear he
                  go_wp2_with fail
                  refine (labels_Right.calls k Ao co o1 e1 e2 _ RL.out.2.2 RL.out.2.1 H7.out (Tabs_below HT.out B8.out)).mono ?_
                  rintro e w9 ⟨rfl, b9⟩
                  go_wp2
                  go_ret3
                  exact ⟨_, rfl, Kd.R_nil _ _ _ _ _, B8.out.trans (b9.mono B8.out.size)⟩
              · rw [if_pos rfl] at h6
                simp only [Option.some.injEq, Prod.mk.injEq] at h6
                obtain ⟨rfl, rfl, rfl⟩ := h6
                go_wp2
                go_ret3
                exact ⟨_, rfl, Kd.R_nil _ _ _ _ _, B8.out⟩
end Go.Proofs.YtfkgbklkjnhipaaGreatDoor.P
