/- Contract of labels.Print, in the printer's form (its rest is what came in, or a row of its own). -/
import Derived.Test.YtfkgbklkjnhipaaGreatDoorPx4
import Derived.Test.YtfkgbklkjnhipaaGreatDoorPx3
import Derived.Test.YtfkgbklkjnhipaaGreatDoorGf
import Derived.Test.YtfkgbklkjnhipaaGreatDoorGh
import Derived.Test.YtfkgbklkjnhipaaGreatDoorGb
import Derived.Test.YtfkgbklkjnhipaaGreatDoorGk
import Derived.Lib.Hide
import Derived.RegionTactic
import Derived.Deep.RegionHeld3
namespace Go.Proofs.YtfkgbklkjnhipaaGreatDoor.P
open BigFrame Go.RowKit Go.Proofs.YtfkgbklkjnhipaaGreatDoorW.PrintWords Go.Proofs.YtfkgbklkjnhipaaGreatDoorW.PrintLast Go.Proofs.YtfkgbklkjnhipaaGreatDoorW.PrintMore
set_option linter.unusedVariables false
set_option linter.unusedSimpArgs false

def labels_Print.l0 : List S67 → List ByteArray → Option (List ByteArray)
  | [], acc => some acc
  | x :: xs, acc => (labels_quoted.f x.f1).bind fun q => if x.f0.size + 1 + q.size ≤ 140737488355328 then (if acc.length < 8796093022208 then labels_Print.l0 xs (acc ++ [x.f0 ++ (⟨#[61]⟩ : ByteArray) ++ q]) else none) else none
def labels_Print.p2 (nm : ByteArray) (rest : List S67) : Option (ByteArray × Int) :=
  if nm.toList ≠ [] ∧ rest.length = 0 then some (nm, 0)
  else (labels_Print.l0 rest []).bind fun ps => (strings_Join.f ps (⟨#[44]⟩ : ByteArray)).bind fun j => if nm.size + 1 + j.size + 1 ≤ 140737488355328 then some (nm ++ (⟨#[123]⟩ : ByteArray) ++ j ++ (⟨#[125]⟩ : ByteArray), 0) else none
def labels_Print.f (k : Nat) (l0 : List S67) : Option (ByteArray × Int) :=
  (labels_right.f k l0).bind fun e => if e = 0 then ((labels_Get.f k l0 metricName).bind fun nm => (labels_Metric.f nm).bind fun m =>
    if m = true then (labels_pick.f k l0 false [metricName]).bind fun rest => labels_Print.p2 nm rest else labels_Print.p2 ⟨#[]⟩ l0) else some (⟨#[]⟩, e)
theorem labels_Print.mono : ∀ a0 k, LeO (labels_Print.f k a0) (labels_Print.f (k + 1) a0) := by
  intro a0 k
  unfold labels_Print.f
  repeat' first
    | (with_reducible exact LeO.refl _)
    | (with_reducible exact labels_right.mono _ _)
    | (with_reducible exact labels_Get.mono _ _ _)
    | (with_reducible exact labels_pick.mono _ _ _ _)
    | (with_reducible exact LeO.none _)
    | (with_reducible refine LeO.ite ?_ ?_)
    | (with_reducible refine LeO.bind ?_ (fun _ => ?_))

/-- What stands behind the choice of the rest. -/
structure PrintAt (w wc : World) (v : Value) (rest : List S67) : Prop where
  S : ∃ A c, v = .slice A rest.length c ∧ rest.length ≤ c ∧ Kd.C k67 wc A rest.length rest
  B : Below w.heap.size w wc

set_option maxRecDepth 100000 in
set_option maxHeartbeats 8000000 in
theorem labels_Print.calls (k : Nat) (A0 : Option Addr) (c0 : Nat) (l0 : List (S67)) (r1 : ByteArray) (r2 : Int) (w : World) (hr0 : Kd.C k67 w A0 l0.length l0) (hc0 : l0.length ≤ c0) (h : labels_Print.f k l0 = some (r1, r2)) (hT : Tabs w) :
    Calls Tryz.prog 27 #[.slice A0 l0.length c0] w fun e w' => e = .returned (.tuple #[.string r1, .int .i64 r2]) ∧ Below w.heap.size w w' := by
  have HR := Lib.hid hr0
  have HC := Lib.hid hc0
  have HT := Lib.hid hT
  unfold labels_Print.f at h
  obtain ⟨e0, h1, h2⟩ := Option.bind_eq_some_iff.mp h
  have H1 := Lib.hid h1
  have H2 := Lib.hid h2
  clear h h1 h2 hT hr0 hc0
  by_cases he : e0 = 0
  · subst he
    have h2 := H2.out
    clear H2
    rw [if_pos rfl] at h2
    obtain ⟨nm, h3, h4⟩ := Option.bind_eq_some_iff.mp h2
    obtain ⟨m, h5, h6⟩ := Option.bind_eq_some_iff.mp h4
    have H3 := Lib.hid h3
    have H5 := Lib.hid h5
    have H6 := Lib.hid h6
    clear h2 h3 h4 h5 h6
    go_enter Tryz.func27, Tryz.ntmps27
    go_wp2_with fail
    refine (labels_right.calls k A0 c0 l0 0 w HR.out HC.out H1.out HT.out).mono ?_
    rintro e w1 ⟨rfl, b1⟩
    have B1 := Lib.hid b1
    clear b1 H1
    go_wp2_with fail
    refine (labels_Get.calls k A0 c0 l0 metricName nm w1 (Kd.C_below HR.out B1.out) HC.out H3.out).mono ?_
    rintro e w2 ⟨rfl, b2⟩
    have B2 := Lib.hid (B1.out.trans (b2.mono B1.out.size))
    clear b2 B1 H3
    go_upto_if 19 with (go_at_call 23; refine (labels_Metric.calls nm m w2 H5.out).mono ?_; rintro e w3 ⟨rfl, b3⟩; have B3 := Lib.hid (B2.out.trans (b3.mono B2.out.size)); clear b3)
    clear B2 H5
    go_cut [5, 6] (fun v5 v6 wc => ∃ (nm' : ByteArray) (rest : List S67), v5 = .string nm' ∧ Hid (PrintAt w wc v6 rest) ∧ Hid (labels_Print.p2 nm' rest = some (r1, r2)))
    case first =>
      cases m
      · have h6 := H6.out
        clear H6
        rw [if_neg (by decide)] at h6
        have H7 := Lib.hid h6
        clear h6
        go_wp2
        go_meet
        case rel => exact ⟨_, l0, rfl, ⟨⟨A0, c0, rfl, HC.out, Kd.C_below HR.out B3.out⟩, B3.out⟩, H7⟩
      · have h6 := H6.out
        clear H6
        rw [if_pos rfl] at h6
        obtain ⟨rest, h7, h8⟩ := Option.bind_eq_some_iff.mp h6
        have H7 := Lib.hid h7
        have H8 := Lib.hid h8
        clear h6 h7 h8
        have HR3 : Hid (Kd.C k67 (w3.alloc (.cells #[.string metricName] 9)) A0 l0.length l0) := Kd.C_alloc (Kd.C_below HR.out B3.out) _
        have HS3 : Hid (Kd.C Kd.string (w3.alloc (.cells #[.string metricName] 9)) (some ⟨w3.heap.size, 0, none⟩) 1 [metricName]) := by
          exact Kd.C_of_reads (enc := Value.string) (d := ⟨#[]⟩) ⟨rfl, by decide, fun _ => ⟨_, rfl, fun j hj => by
            obtain rfl : j = 0 := by omega
            rw [add_plain]
            exact (blk_cell (heap_alloc_new w3 (.cells #[.string metricName] 9)) 0).trans rfl⟩⟩
        go_wp2_with fail
        refine (labels_pick.calls k A0 c0 l0 false (some ⟨w3.heap.size, 0, none⟩) 1 [metricName] rest _ HR3.out HC.out HS3.out (Nat.le_refl _) H7.out).mono ?_
        rintro e w4 ⟨vr, rfl, rr, b4⟩
        have B4 := Lib.hid ((below_alloc B3.out (.cells #[.string metricName] 9)).trans (b4.mono (below_alloc B3.out (.cells #[.string metricName] 9)).size))
        obtain ⟨Ar, cr, rfl⟩ := Kd.R_slice rr
        have RR := Lib.hid (Kd.R_reads' rr)
        clear rr b4 H7 B3 HR3 HS3
        go_wp2
        go_meet
        case rel => exact ⟨_, rest, rfl, ⟨⟨Ar, cr, rfl, RR.out.2.1, RR.out.2.2⟩, B4.out⟩, H8⟩
    case rest =>
      clear B3 H6
      obtain ⟨nm', rest, rfl, PA, HP⟩ := hcut
      obtain ⟨A, c, rfl, hcl, hC⟩ := PA.out.S
      have HCl := Lib.hid hcl
      have HCC := Lib.hid hC
      have HB := Lib.hid PA.out.B
      clear PA hcl hC
      obtain ⟨early, hE⟩ : ∃ x : Bool, (!nm'.toList.isEmpty && (rest.length == 0)) = x := ⟨_, rfl⟩
      have HE := Lib.hid hE
      clear hE
      go_upto_region 9 with (fail)
      go_cut [29] (fun v29 wd => v29 = .bool early ∧ wd = wc)
      case first =>
        clear HP
        cases hn : nm'.toList.isEmpty <;> cases hl : (rest.length == 0)
        all_goals
          have hbd := HE.out
          rw [hn, hl] at hbd
          simp only [Bool.and_self, Bool.and_false, Bool.false_and, Bool.and_true, Bool.not_true, Bool.not_false] at hbd
          subst hbd
          have q1 : (nm'.toList == []) = nm'.toList.isEmpty := by cases nm'.toList <;> rfl
          have q2 : (nm'.toList != []) = !nm'.toList.isEmpty := by cases nm'.toList <;> rfl
          rw [hn] at q1 q2
          simp only [Bool.not_true, Bool.not_false] at q2
          have q3 : ((rest.length : Int) == 0) = (rest.length == 0) := by rw [Bool.eq_iff_iff]; simp
          rw [hl] at q3
          clear HE
          go_wp2
          go_meet
          case rel => exact ⟨rfl, rfl⟩
      case rest =>
        obtain ⟨rfl, rfl⟩ := hcut
        have hp := HP.out
        clear HP
        unfold labels_Print.p2 at hp
        cases early
        · rw [if_neg (fun hh => by
            have := HE.out
            rw [hh.2] at this
            have h3 : nm'.toList.isEmpty = false := by cases e_ : nm'.toList with
              | nil => exact absurd e_ hh.1
              | cons _ _ => rfl
            rw [h3] at this
            cases this)] at hp
          obtain ⟨ps, h3, h4⟩ := Option.bind_eq_some_iff.mp hp
          obtain ⟨js, h5, h6⟩ := Option.bind_eq_some_iff.mp h4
          by_cases hz : nm'.size + 1 + js.size + 1 ≤ 140737488355328
          · rw [if_pos hz] at h6
            simp only [Option.some.injEq, Prod.mk.injEq] at h6
            obtain ⟨rfl, rfl⟩ := h6
            have H3 := Lib.hid h3
            have H5 := Lib.hid h5
            have HZ := Lib.hid hz
            clear hp h3 h4 h5 hz HE
            go_wp2
            go_loopg [7, 33] rest.length (fun kq v7 v33 wr => ∃ (z : Int) (acc : List ByteArray), v33 = .int .i64 z ∧ 0 ≤ z ∧ Hid (kq + z.toNat = rest.length) ∧ Hid (labels_Print.l0 (rest.drop z.toNat) acc = some ps) ∧ Hid (Kd.R Kd.string 9 wr wc.heap.size (fun _ => True) v7 acc) ∧ Hid (Below wc.heap.size wc wr))
            case atStart => exact ⟨0, [], rfl, Int.le_refl _, (by show _ = _; simp), H3, Kd.R_nil _ _ _ _ _, Below.refl _ _⟩
            case round =>
              clear H3
              obtain ⟨z, acc, rfl, h0, HM, HA, HRr, HBr⟩ := hrel
              by_cases hlt : z < (rest.length : Int)
              · have hi : z.toNat < rest.length := by omega
                obtain ⟨k1, rfl⟩ : ∃ m, gk = m + 1 := ⟨gk - 1, by have := HM.out; omega⟩
                have ha := HA.out
                rw [List.drop_eq_getElem_cons hi] at ha
                have hxx : rest[z.toNat] = rd_T67 rest z := by simp [rd_T67, List.getD, List.getElem?_eq_getElem hi]
                rw [hxx] at ha
                unfold labels_Print.l0 at ha
                obtain ⟨qv, h7, h8⟩ := Option.bind_eq_some_iff.mp ha
                by_cases hs1 : (rd_T67 rest z).f0.size + 1 + qv.size ≤ 140737488355328
                · rw [if_pos hs1] at h8
                  by_cases hs2 : acc.length < 8796093022208
                  · rw [if_pos hs2] at h8
                    have H7 := Lib.hid h7
                    have H8 := Lib.hid h8
                    have HS1 := Lib.hid hs1
                    have HS2 := Lib.hid hs2
                    have HZ0 := Lib.hid h0
                    have da : decide (z < (rest.length : Int)) = true := decide_eq_true hlt
                    obtain ⟨ad, eA, hx0, hx1⟩ := at_T67 (Kd.C_below HCC.out HBr.out) z h0 hlt
                    cases eA
                    have hwz : wrap64 (z + 1) = z + 1 := by
                      have := (Kd.C_below HCC.out HBr.out).2.1
                      unfold wrap64; omega
                    have HWZ := Lib.hid hwz
                    clear HA ha hxx h7 h8 hs1 hs2 hi hwz
                    replace h0 := eq_true h0
                    replace hlt := eq_true hlt
                    go_wp2
                    have c0 : (wr.alloc (.cells #[.string (rd_T67 rest z).f0, .string (rd_T67 rest z).f1] 67)).cell? ⟨wr.heap.size, 0, none⟩ = some (.string (rd_T67 rest z).f0) := (blk_cell (heap_alloc_new wr _) 0).trans rfl
                    have c1 : (wr.alloc (.cells #[.string (rd_T67 rest z).f0, .string (rd_T67 rest z).f1] 67)).cell? ⟨wr.heap.size, 1, none⟩ = some (.string (rd_T67 rest z).f1) := (blk_cell (heap_alloc_new wr _) 1).trans rfl
                    have RW := Lib.hid (Kd.R_alloc HRr.out (.cells #[.string (rd_T67 rest z).f0, .string (rd_T67 rest z).f1] 67))
                    have BW := Lib.hid (HBr.out.alloc HBr.out.size (.cells #[.string (rd_T67 rest z).f0, .string (rd_T67 rest z).f1] 67))
                    have hne : some wr.heap.size ≠ u7.ownBlock := fun e_ => Nat.lt_irrefl _ (own_lt (Kd.R_own HRr.out).choose_spec _ e_.symm)
                    clear hx0 hx1 HRr HBr
                    generalize hgx : wr.heap.size = gx at c0 c1 hne ⊢
                    generalize wr.alloc (.cells #[.string (rd_T67 rest z).f0, .string (rd_T67 rest z).f1] 67) = W at c0 c1 RW BW ⊢
                    clear hgx
                    have g1 : (9223372036854775807 < (rd_T67 rest z).f0.size + 1) = False := eq_false (by have := HS1.out; omega)
                    have g2 : (9223372036854775807 < (rd_T67 rest z).f0.size + 1 + qv.size) = False := eq_false (by have := HS1.out; omega)
                    have hgl : gx < W.heap.size := World.block_lt_of_cell? W _ c0
                    go_region_held3 (fun w' => w'.cell? ⟨gx, 0, none⟩ = some (.string (rd_T67 rest z).f0) ∧ w'.cell? ⟨gx, 1, none⟩ = some (.string (rd_T67 rest z).f1))
                      (first
                        | go_keep
                        | (exact ⟨(b3.cell (p := ⟨gx, 0, none⟩) hgl).trans c0, (b3.cell (p := ⟨gx, 1, none⟩) hgl).trans c1⟩)
                        | (exact ⟨(hg8.cell_far ⟨gx, 0, none⟩ (Nat.lt_of_lt_of_le hgl b3.size) hne).trans ((b3.cell (p := ⟨gx, 0, none⟩) hgl).trans c0), (hg8.cell_far ⟨gx, 1, none⟩ (Nat.lt_of_lt_of_le hgl b3.size) hne).trans ((b3.cell (p := ⟨gx, 1, none⟩) hgl).trans c1)⟩))
                      (first
                        | (go_at_call 80; refine (labels_quoted.calls (rd_T67 rest z).f1 qv _ H7.out).mono ?_; rintro e' w3 ⟨rfl, b3⟩)
                        | (refine Kd.R_append_step Kd.string (w0 := wc) wc.heap.size (by rfl) (.tmp 37) (.tmp 45) 61 9 (.string ⟨#[]⟩) 16 (by rfl) Tryz.underlying61 info9 rfl (by decide) (by omega) u7 acc ((rd_T67 rest z).f0 ++ (⟨#[61]⟩ : ByteArray) ++ qv) [.string ((rd_T67 rest z).f0 ++ (⟨#[61]⟩ : ByteArray) ++ qv)] (fun _ => True) (fun _ => False) (by rfl) (by rfl) rfl (fun _ hk => hk.elim) (fun _ _ => trivial) (Kd.R_below (Kd.R_drew RW.out) b3) (BW.out.drew.trans (b3.mono BW.out.size)) (Nat.le_trans BW.out.size b3.size) (by have := HS2.out; omega) ?_; intro v8 w8 hR8 hB8 hg8 hat8))
                    have R8 := Lib.hid hR8
                    have B8 := Lib.hid hB8
                    clear hR8 hB8 hg8 hat8 b3 c0 c1 hne hgl RW BW g1 g2
                    go_wp2
                    go_roundg k1
                    case measure => omega
                    case rel => exact ⟨z + 1, _, (by rw [HWZ.out]), (by have := HZ0.out; omega), (by have := HM.out; have := HZ0.out; show _ = _; omega), (by have := H8.out; rw [show (z + 1).toNat = z.toNat + 1 by have := HZ0.out; omega]; exact this), R8, B8⟩
                  · rw [if_neg hs2] at h8; cases h8
                · rw [if_neg hs1] at h8; cases h8
              · have da : decide (z < (rest.length : Int)) = false := decide_eq_false hlt
                have hps : acc = ps := by
                  have ha := HA.out
                  rw [List.drop_eq_nil_of_le (by omega)] at ha
                  exact Option.some.inj ha
                subst hps
                obtain ⟨Ap, cp, rfl⟩ := Kd.R_slice HRr.out
                have RR := Lib.hid (Kd.R_reads' HRr.out)
                have g1 : (9223372036854775807 < nm'.size + 1) = False := eq_false (by have := HZ.out; omega)
                have g2 : (9223372036854775807 < nm'.size + 1 + js.size) = False := eq_false (by have := HZ.out; omega)
                have g3 : (9223372036854775807 < nm'.size + 1 + js.size + 1) = False := eq_false (by have := HZ.out; omega)
                clear HA hlt HRr h0
                go_wp2_with fail
                refine (strings_Join.calls Ap cp acc (⟨#[44]⟩ : ByteArray) js _ RR.out.2.2 RR.out.2.1 H5.out).mono ?_
                rintro e' w9 ⟨rfl, b9⟩
                have B9 := Lib.hid (HB.out.trans ((HBr.out.trans (b9.mono HBr.out.size)).mono HB.out.size))
                clear b9 RR
                go_wp2
                go_ret2
                exact ⟨rfl, B9.out⟩
          · rw [if_neg hz] at h6; cases h6
        · have hee := HE.out
          rw [Bool.and_eq_true] at hee
          rw [if_pos ⟨fun h_ => by rw [h_] at hee; exact absurd hee.1 (by decide), by simpa using hee.2⟩] at hp
          simp only [Option.some.injEq, Prod.mk.injEq] at hp
          obtain ⟨rfl, rfl⟩ := hp
          clear hee HE
          go_wp2
          go_ret2
          exact ⟨rfl, HB.out⟩
  · have h2 := H2.out
    rw [if_neg he] at h2
    simp only [Option.some.injEq, Prod.mk.injEq] at h2
    obtain ⟨rfl, rfl⟩ := h2
    have q1 : (e0 == 0) = false := by simpa using he
    have q2 : (e0 != 0) = true := by simpa using he
    clear H2 he
    go_enter Tryz.func27, Tryz.ntmps27
    go_wp2_with fail
    refine (labels_right.calls k A0 c0 l0 e0 w HR.out HC.out H1.out HT.out).mono ?_
    rintro e w1 ⟨rfl, b1⟩
    go_wp2
    go_ret2
    exact ⟨rfl, b1⟩
end Go.Proofs.YtfkgbklkjnhipaaGreatDoor.P
