/- strings.Replacer over single bytes: sync.Once, Replace, NewReplacer; labels.quoted for short plain values. -/
import Derived.Test.YtfkgbklkjnhipaaGreatDoorGe
import Derived.Tactics2
import Derived.Defers
import Derived.Laws.Pointers
import Derived.Laws.LoneSync
import Derived.RegionTactic
import Derived.RegionCalls
import Derived.ChangeAlike
import Derived.Handy
namespace Go.Proofs.YtfkgbklkjnhipaaGreatDoor.P
open Go.RowKit Go.Proofs.YtfkgbklkjnhipaaGreatDoorW.PrintWords Go.Proofs.YtfkgbklkjnhipaaGreatDoorW.PrintLast Go.Proofs.YtfkgbklkjnhipaaGreatDoorW.PrintMore
set_option linter.unusedVariables false
set_option linter.unusedSimpArgs false

theorem r_disable (w : World) : (callFunc 208 #[]).run Tryz.prog w = .ok (.value (.tuple #[])) w := run_call_mark0 Tryz.func208 (by kernel_rfl) (by kernel_rfl) (by kernel_rfl) .disable (by kernel_rfl) w
theorem r_enable (w : World) : (callFunc 210 #[]).run Tryz.prog w = .ok (.value (.tuple #[])) w := run_call_mark0 Tryz.func210 (by kernel_rfl) (by kernel_rfl) (by kernel_rfl) .enable (by kernel_rfl) w
theorem r_acquire (a : Addr) (w : World) : (callFunc 211 #[.pointer (some a)]).run Tryz.prog w = .ok (.value (.tuple #[])) w := run_call_marked Tryz.func211 (by kernel_rfl) (by kernel_rfl) (by kernel_rfl) .acquire (by kernel_rfl) a w
theorem r_releaseMerge (a : Addr) (w : World) : (callFunc 213 #[.pointer (some a)]).run Tryz.prog w = .ok (.value (.tuple #[])) w := run_call_marked Tryz.func213 (by kernel_rfl) (by kernel_rfl) (by kernel_rfl) .releaseMerge (by kernel_rfl) a w

theorem store_deferred (a : Addr) (x : Value) (u : FrameMode) (w : World) (hc : w.cell? a = some x) (hz : w.frozen? a = false) :
    CallsD Tryz.prog 197 #[.pointer (some a), .bool true] u w fun e u' w' => u' = u ∧ (e = .returned (.tuple #[]) ∧ w' = w.drew.setCell a (.int .u32 1)) := by
  have hc' : w.drew.cell? a = some x := by go_simp
  have hz' : w.drew.frozen? a = false := by go_simp
  have hst := run_call_store (P := Tryz.prog) Tryz.func203 (by kernel_rfl) (by kernel_rfl) (by kernel_rfl) (by kernel_rfl) (k := .u32) (y := 1) hc' hz'
  go_enter_d Tryz.func197, Tryz.ntmps197
  go_wp2
  go_region_calls
  all_goals (go_end0; exact ⟨rfl, rfl⟩)

set_option maxRecDepth 100000 in
set_option maxHeartbeats 1600000 in
theorem unlock_deferred (a : Addr) (u : FrameMode) (w : World) (hc : w.cell? a = some (.int .i32 1)) (hz : w.frozen? a = false) :
    CallsD Tryz.prog 196 #[.pointer (some a)] u w fun e u' w' => u' = u ∧ (e = .returned (.tuple #[]) ∧ w' = w.setCell a (.int .i32 0)) := by
  have hd := r_disable
  have he := r_enable
  have hr := r_releaseMerge
  have hadd := run_call_add (P := Tryz.prog) Tryz.func214 (by kernel_rfl) (by kernel_rfl) (by kernel_rfl) .i32 (by kernel_rfl) (y := -1) (s := 0) hc hz (by simp [go_sem]; rfl)
  have hcv := run_convert_to_unsafe (P := Tryz.prog) (src := 248) (dst := 213) Tryz.underlying248 Tryz.underlying213 (by kernel_rfl) hc
  go_enter_d Tryz.func196, Tryz.ntmps196
  go_wp2
  all_goals (try go_end0)
  all_goals (try go_wp2)
  all_goals (try go_end0)
  all_goals exact ⟨rfl, rfl⟩

set_option maxRecDepth 100000 in
set_option maxHeartbeats 1600000 in
theorem lock_free (a : Addr) (w : World) (hc : w.cell? a = some (.int .i32 0)) (hz : w.frozen? a = false) :
    Calls Tryz.prog 195 #[.pointer (some a)] w fun e w' => e = .returned (.tuple #[]) ∧ w' = w.setCell a (.int .i32 1) := by
  have hd := r_disable
  have he := r_enable
  have ha := r_acquire
  have hcas := run_call_cas_hit (P := Tryz.prog) Tryz.func209 (by kernel_rfl) (by kernel_rfl) (by kernel_rfl) .i32 (by kernel_rfl) (y := 1) hc hz
  have hc' : (w.setCell a (.int .i32 1)).cell? a = some (.int .i32 1) := World.cell?_setCell_same w a _ hc
  have hcv := run_convert_to_unsafe (P := Tryz.prog) (src := 248) (dst := 213) Tryz.underlying248 Tryz.underlying213 (by kernel_rfl) hc'
  go_enter Tryz.func195, Tryz.ntmps195
  go_wp2
  all_goals (try first | go_end0 | (simp only [Exit.inBlock, Exit.then]; refine bodyPost_ret (results_none rfl _ _ _) rfl ?_) | refine bodyPost_ret (results_none rfl _ _ _) rfl ?_)
  all_goals (try go_wp2)
  all_goals (try go_end0)
  all_goals exact ⟨rfl, rfl⟩

/-- The parameter's row in the call's world. -/
def oldRow (gB : Nat) (w : World) : Prop := ∃ cb tB fB, w.heap[gB]? = some (.cells cb tB fB) ∧ cb[0]? = some (.string ⟨#[92]⟩) ∧ cb[1]? = some (.string ⟨#[92, 92]⟩) ∧ cb[2]? = some (.string ⟨#[34]⟩) ∧ cb[3]? = some (.string ⟨#[92, 34]⟩) ∧ cb[4]? = some (.string ⟨#[10]⟩) ∧ cb[5]? = some (.string ⟨#[92, 110]⟩)
/-- The replacer's own row. -/
structure RowC (gC gB cB : Nat) (w : World) (cc : Array Value) : Prop where
  at_ : w.heap[gC]? = some (.cells cc 204 (0, 0))
  size : cc.size = 5
  old : cc[4]? = some (.slice (some ⟨gB, 0, none⟩) 6 cB)

set_option maxHeartbeats 1000000 in
theorem buildOnce_calls (B gB gC cB : Nat) (cc : Array Value) (w : World) (hC : RowC gC gB cB w cc) (hB : oldRow gB w) (hBC : B ≤ gC) :
    Calls Tryz.prog 173 #[.pointer (some ⟨gC, 0, none⟩)] w fun e w' => e = .returned (.tuple #[]) ∧ ∃ gE : Nat, gE ≠ gC ∧ Rep gE w' ∧ Below B w w' ∧
      w'.heap[gC]? = some (.cells ((cc.setIfInBounds 3 (.iface 233 (.pointer (some ⟨gE, 0, none⟩)))).setIfInBounds 4 (.slice none 0 0)) 204 (0, 0)) := by
  obtain ⟨cb, tB, fB, hh, h0, h1, h2, h3, h4, h5⟩ := hB
  have hlt : gC < w.heap.size := (Array.getElem?_eq_some_iff.1 hC.at_).1
  have HB := Lib.hid (build_calls gB gC cB cb cc tB _ fB _ w hC.at_ hh hC.old h0 h1 h2 h3 h4 h5)
  have HC := Lib.hid hC
  clear hC hh h0 h1 h2 h3 h4 h5
  have HF := Lib.hid (show ∀ (gE : Nat) (w' : World), w.heap.size ≤ gE → Rep gE w' → Below w.heap.size w w' →
      (∃ v3, w'.cell? ⟨gC, 3, none⟩ = some v3) ∧ (∃ v4, w'.cell? ⟨gC, 4, none⟩ = some v4) ∧ w'.frozen? ⟨gC, 3, none⟩ = false ∧ w'.frozen? ⟨gC, 4, none⟩ = false ∧
      Hid (∃ gE' : Nat, gE' = gE ∧ gE ≠ gC ∧ Rep gE ((w'.setCell ⟨gC, 3, none⟩ (.iface 233 (.pointer (some ⟨gE, 0, none⟩)))).setCell ⟨gC, 4, none⟩ (.slice none 0 0)) ∧ Below B w ((w'.setCell ⟨gC, 3, none⟩ (.iface 233 (.pointer (some ⟨gE, 0, none⟩)))).setCell ⟨gC, 4, none⟩ (.slice none 0 0)) ∧
        ((w'.setCell ⟨gC, 3, none⟩ (.iface 233 (.pointer (some ⟨gE, 0, none⟩)))).setCell ⟨gC, 4, none⟩ (.slice none 0 0)).heap[gC]? = some (.cells ((cc.setIfInBounds 3 (.iface 233 (.pointer (some ⟨gE, 0, none⟩)))).setIfInBounds 4 (.slice none 0 0)) 204 (0, 0))) from by
    intro gE w' hge hrep hbel
    have hC' := (hbel.block gC hlt).trans HC.out.at_
    have hsz := HC.out.size
    refine ⟨⟨_, cellE hC' 3 (Array.getElem?_eq_getElem (by omega))⟩, ⟨_, cellE hC' 4 HC.out.old⟩, by simp [World.frozen?, hC'], by simp [World.frozen?, hC'], _, rfl, by omega, ?_, ?_, ?_⟩
    · obtain ⟨c, t, gD, q1, q2, q3⟩ := hrep
      refine ⟨c, t, gD, ?_, q2, q3⟩
      rw [Below.heap_setCell _ _ _ _ (by simp; omega), Below.heap_setCell _ _ _ _ (by simp; omega)]
      exact q1
    · exact ((hbel.mono (by omega)).setCell hBC _).setCell hBC _
    · generalize hv : (Value.iface 233 (.pointer (some ⟨gE, 0, none⟩))) = v
      have q1 := setCell_eq_setRow w' gC 3 cc _ _ v hC'
      have q2 := setRow_heap w' gC cc (cc.setIfInBounds 3 v) _ _ hC'
      rw [q1, setCell_eq_setRow _ gC 4 _ _ _ _ q2]
      exact setRow_heap _ _ _ _ _ _ q2)
  go_enter Tryz.func173, Tryz.ntmps173
  go_wp2_with (go_at_call 187; refine HB.out.mono ?_; rintro e w' ⟨gE, rfl, hge, hrep, hbel⟩; obtain ⟨⟨v3, k3⟩, ⟨v4, k4⟩, f3, f4, HG⟩ := HF.out gE w' hge hrep hbel; clear hrep hbel)
  go_end0
  obtain ⟨gE', rfl, n1, n2, n3, n4⟩ := HG.out
  exact ⟨rfl, _, n1, n2, n3, n4⟩

/-- A row's cells, the four stores of the slow road behind it. -/
theorem row_set {w : World} {g j : Nat} {c : Array Value} {t : TypeId} {fr : Nat × Nat} (h : w.heap[g]? = some (.cells c t fr)) (v : Value) : (w.setCell ⟨g, j, none⟩ v).heap[g]? = some (.cells (c.setIfInBounds j v) t fr) := by
  rw [setCell_eq_setRow w g j c t fr v h]; exact setRow_heap _ _ _ _ _ _ h
theorem RowC.set {gC gB cB : Nat} {w : World} {cc : Array Value} (h : RowC gC gB cB w cc) (j : Nat) (hj : j ≠ 4) (v : Value) : RowC gC gB cB (w.setCell ⟨gC, j, none⟩ v) (cc.setIfInBounds j v) :=
  ⟨row_set h.at_ v, by simp [h.size], by rw [Array.getElem?_setIfInBounds_ne hj]; exact h.old⟩
theorem Rep.set {gE gC j : Nat} {w : World} {v : Value} (h : Rep gE w) (hne : gE ≠ gC) : Rep gE (w.setCell ⟨gC, j, none⟩ v) := by
  obtain ⟨c, t, gD, q1, q2, q3⟩ := h
  exact ⟨c, t, gD, by rw [Below.heap_setCell _ _ _ _ hne]; exact q1, q2, q3⟩
theorem Rep.drew {gE : Nat} {w : World} (h : Rep gE w) : Rep gE w.drew := h
theorem oldRow.set {gB gC j : Nat} {w : World} {v : Value} (h : oldRow gB w) (hne : gB ≠ gC) : oldRow gB (w.setCell ⟨gC, j, none⟩ v) := by
  obtain ⟨cb, t, f, q1, q2⟩ := h
  exact ⟨cb, t, f, by rw [Below.heap_setCell _ _ _ _ hne]; exact q1, q2⟩

set_option maxRecDepth 100000 in
set_option maxHeartbeats 1600000 in
theorem slow_any (B gB gC cB : Nat) (cc : Array Value) (w : World) (hC : RowC gC gB cB w cc) (hB : oldRow gB w) (hne : gB ≠ gC) (hBC : B ≤ gC) (h0 : cc[0]? = some (.int .u32 0)) (h1 : cc[1]? = some (.int .i32 0)) :
    Calls Tryz.prog 186 #[.pointer (some ⟨gC, 0, none⟩), .func (.func 173) #[.pointer (some ⟨gC, 0, none⟩)] #[]] w fun e w' => e = .returned (.tuple #[]) ∧ ∃ gE : Nat, Rep gE w' ∧ Below B w w' ∧
      w'.cell? ⟨gC, 3, none⟩ = some (.iface 233 (.pointer (some ⟨gE, 0, none⟩))) := by
  have hL := lock_free ⟨gC, 1, none⟩ w (cellE hC.at_ 1 h1) (by simp [World.frozen?, hC.at_])
  have hC1 := hC.set 1 (by omega) (.int .i32 1)
  have hB1 : oldRow gB (w.setCell ⟨gC, 1, none⟩ (.int .i32 1)) := hB.set hne
  have h01 : (cc.setIfInBounds 1 (.int .i32 1))[0]? = some (.int .u32 0) := by rw [Array.getElem?_setIfInBounds_ne (by omega)]; exact h0
  have h11 : (cc.setIfInBounds 1 (.int .i32 1))[1]? = some (.int .i32 1) := by rw [Array.getElem?_setIfInBounds_self]; simp [hC.size]
  have hb1 : Below B w (w.setCell ⟨gC, 1, none⟩ (.int .i32 1)) := (Below.refl B w).setCell hBC _
  generalize hc1 : cc.setIfInBounds 1 (.int .i32 1) = c1 at hC1 h01 h11
  generalize hw1 : w.setCell ⟨gC, 1, none⟩ (.int .i32 1) = w1 at hL hC1 hB1 hb1
  have hl := run_call_load (P := Tryz.prog) Tryz.func194 (by kernel_rfl) (by kernel_rfl) (by kernel_rfl) .u32 (by kernel_rfl) (w := w1) (a := ⟨gC, 0, none⟩) (x := 0) (cellE hC1.at_ 0 h01)
  have hnot : ∀ (x : Bool) (w : World), (Op.unary .not (.bool x)).run Tryz.prog w = .ok (.bool (!x)) w := fun _ _ => rfl
  have HL := Lib.hid hL
  have HO := Lib.hid (buildOnce_calls B gB gC cB c1 w1 hC1 hB1 hBC)
  have HS := Lib.hid hC1.size
  have H0 := Lib.hid h01
  have H1 := Lib.hid h11
  have HB1 := Lib.hid hb1
  clear hL hC1 hB1 h01 h11 hb1 hw1 hc1 hC hB h0 h1
  go_enter_defers Tryz.func186, Tryz.ntmps186
  go_wp2_with (first | (go_at_call 195; refine HL.out.mono ?_; rintro e w' ⟨rfl, rfl⟩) | (go_at_call 185; go_in) | (go_at_call 173; refine HO.out.mono ?_; rintro e w' ⟨rfl, gE, n1, n2, n3, n4⟩; have N := Lib.hid (And.intro n1 (And.intro n2 (And.intro n3 n4))); clear n1 n2 n3 n4))
  try go_wp2
  obtain ⟨n1, n2, n3, n4⟩ := N.out
  clear N HO HL hl hnot
  have s1 := HS.out
  have g0 : ((c1.setIfInBounds 3 (.iface 233 (.pointer (some ⟨gE, 0, none⟩)))).setIfInBounds 4 (.slice none 0 0))[0]? = some (.int .u32 0) := by
    rw [Array.getElem?_setIfInBounds_ne (by omega), Array.getElem?_setIfInBounds_ne (by omega)]; exact H0.out
  have g1 : ((c1.setIfInBounds 3 (.iface 233 (.pointer (some ⟨gE, 0, none⟩)))).setIfInBounds 4 (.slice none 0 0))[1]? = some (.int .i32 1) := by
    rw [Array.getElem?_setIfInBounds_ne (by omega), Array.getElem?_setIfInBounds_ne (by omega)]; exact H1.out
  have g3 : ((c1.setIfInBounds 3 (.iface 233 (.pointer (some ⟨gE, 0, none⟩)))).setIfInBounds 4 (.slice none 0 0))[3]? = some (.iface 233 (.pointer (some ⟨gE, 0, none⟩))) := by
    rw [Array.getElem?_setIfInBounds_ne (by omega), Array.getElem?_setIfInBounds_self]; simp [s1]
  generalize ((c1.setIfInBounds 3 (.iface 233 (.pointer (some ⟨gE, 0, none⟩)))).setIfInBounds 4 (.slice none 0 0)) = c2 at n4 g0 g1 g3
  refine leaves_cons (f := 197) (args := #[.pointer (some ⟨gC, 0, none⟩), .bool true]) (by simp) (by simp [go_sem]) ?_
  refine (store_deferred ⟨gC, 0, none⟩ (.int .u32 0) .returning _ (cellE n4 0 g0) (by simp [World.frozen?, n4])).mono ?_
  rintro e u' w'' ⟨rfl, rfl, rfl⟩
  have m4 : (w'.drew.setCell ⟨gC, 0, none⟩ (.int .u32 1)).heap[gC]? = some (.cells (c2.setIfInBounds 0 (.int .u32 1)) 204 (0, 0)) := row_set (w := w'.drew) n4 _
  have m1 : (c2.setIfInBounds 0 (.int .u32 1))[1]? = some (.int .i32 1) := by rw [Array.getElem?_setIfInBounds_ne (by omega)]; exact g1
  have m3 : (c2.setIfInBounds 0 (.int .u32 1))[3]? = some (.iface 233 (.pointer (some ⟨gE, 0, none⟩))) := by rw [Array.getElem?_setIfInBounds_ne (by omega)]; exact g3
  refine leaves_cons (f := 196) (args := #[.pointer (some ⟨gC, 1, none⟩)]) (by simp [settle]) (by simp [go_sem]) ?_
  refine (unlock_deferred ⟨gC, 1, none⟩ _ _ (cellE m4 1 m1) (by simp [World.frozen?, m4])).mono ?_
  rintro e u' w'' ⟨rfl, rfl, rfl⟩
  have hrep : Rep gE ((w'.drew.setCell ⟨gC, 0, none⟩ (.int .u32 1)).setCell ⟨gC, 1, none⟩ (.int .i32 0)) := (n2.drew.set n1).set n1
  have hbel : Below B w ((w'.drew.setCell ⟨gC, 0, none⟩ (.int .u32 1)).setCell ⟨gC, 1, none⟩ (.int .i32 0)) := ((HB1.out.trans n3).drew.setCell hBC _).setCell hBC _
  have hcell := cellE (row_set (j := 1) m4 (.int .i32 0)) 3 (by rw [Array.getElem?_setIfInBounds_ne (by omega)]; exact m3)
  generalize ((w'.drew.setCell ⟨gC, 0, none⟩ (.int .u32 1)).setCell ⟨gC, 1, none⟩ (.int .i32 0)) = wE at hrep hbel hcell ⊢
  have HX := Lib.hid (show ∃ gE, Rep gE wE ∧ Below B w wE ∧ wE.cell? ⟨gC, 3, none⟩ = some (.iface 233 (.pointer (some ⟨gE, 0, none⟩))) from ⟨gE, hrep, hbel, hcell⟩)
  clear hrep hbel hcell
  simp [Leaves, settle, results, Tryz.results186]
  exact HX.out

set_option maxRecDepth 100000 in
set_option maxHeartbeats 1600000 in
theorem do_calls (B gB gC cB : Nat) (cc : Array Value) (w : World) (hC : RowC gC gB cB w cc) (hB : oldRow gB w) (hne : gB ≠ gC) (hBC : B ≤ gC) (h0 : cc[0]? = some (.int .u32 0)) (h1 : cc[1]? = some (.int .i32 0)) :
    Calls Tryz.prog 172 #[.pointer (some ⟨gC, 0, none⟩), .func (.func 173) #[.pointer (some ⟨gC, 0, none⟩)] #[]] w fun e w' => e = .returned (.tuple #[]) ∧ ∃ gE : Nat, Rep gE w' ∧ Below B w w' ∧
      w'.cell? ⟨gC, 3, none⟩ = some (.iface 233 (.pointer (some ⟨gE, 0, none⟩))) := by
  have HS := Lib.hid (slow_any B gB gC cB cc w hC hB hne hBC h0 h1)
  have hl := run_call_load (P := Tryz.prog) Tryz.func194 (by kernel_rfl) (by kernel_rfl) (by kernel_rfl) .u32 (by kernel_rfl) (w := w) (a := ⟨gC, 0, none⟩) (x := 0) (cellE hC.at_ 0 h0)
  have hnot : ∀ (x : Bool) (w : World), (Op.unary .not (.bool x)).run Tryz.prog w = .ok (.bool (!x)) w := fun _ _ => rfl
  clear hC hB h0 h1
  go_enter Tryz.func172, Tryz.ntmps172
  go_wp2_with (first | (go_at_call 186; refine HS.out.mono ?_; rintro e w' ⟨rfl, gE, n1, n2, n3⟩; have N := Lib.hid (And.intro n1 (And.intro n2 n3)); clear n1 n2 n3) | (go_at_call 185; go_in))
  go_end0
  exact ⟨rfl, _, N.out⟩

set_option maxRecDepth 100000 in
set_option maxHeartbeats 1600000 in
theorem replacer_calls (B gB gC cB : Nat) (cc : Array Value) (w : World) (hC : RowC gC gB cB w cc) (hB : oldRow gB w) (hne : gB ≠ gC) (hBC : B ≤ gC) (h0 : cc[0]? = some (.int .u32 0)) (h1 : cc[1]? = some (.int .i32 0))
    (s : ByteArray) (hs : s.size < 24) (hp : ∀ k : Nat, k < s.size → plainB (bt s k) = true) :
    Calls Tryz.prog 137 #[.pointer (some ⟨gC, 0, none⟩), .string s] w fun e w' => e = .returned (.string s) ∧ Below B w w' := by
  have HD := Lib.hid (do_calls B gB gC cB cc w hC hB hne hBC h0 h1)
  have HP := Lib.hid hp
  have hmf : ∀ (fn : Fn) (first cap : Array Value) (w : World), (Instr.makeFunc fn first cap).run Tryz.prog w = .ok (.func fn first cap) w := fun _ _ _ _ => rfl
  clear hC hB h0 h1 hp
  go_enter Tryz.func137, Tryz.ntmps137
  go_wp2_with (first | (go_at_call 172; refine HD.out.mono ?_; rintro e w' ⟨rfl, gE, n1, n2, n3⟩; have N1 := Lib.hid n1; have N2 := Lib.hid n2; clear n1 n2) | (go_at_call 251; obtain ⟨c, t, gD, q1, q2, q3⟩ := N1.out; refine (replace_plain s gE gD c t _ _ q1 q2 q3 hs HP.out).mono ?_; rintro e w'' ⟨rfl, rfl⟩; clear q1 q2 q3))
  go_ret
  exact ⟨rfl, N2.out⟩

theorem info_204 : (Tryz.prog.info? 204).map (fun i => (i.zero, i.size)) = some (some (.agg #[.int .u32 0, .int .i32 0, .int .u32 0, .nilIface, .slice none 0 0]), 5) := by kernel_rfl
theorem built_204 (p : Option Addr) (l c : Nat) : Tryz.prog.built 204 [(2, .slice p l c)] = some #[.int .u32 0, .int .i32 0, .int .u32 0, .nilIface, .slice p l c] := by kernel_rfl

theorem ownsRow_some {w : World} {base : Nat} {e : TypeId} {v : Value} {n : Nat} {xs : List Value} (h : w.ownsRow base e 1 v n xs) (hn : 0 < n) :
    ∃ g cap cur, v = .slice (some ⟨g, 0, none⟩) n cap ∧ base ≤ g ∧ w.heap[g]? = some (.cells cur e (0, 0)) ∧ cur.toList.take n = xs := by
  obtain ⟨-, ⟨-, h⟩ | ⟨g, cap, cur, h1, h2, h3, -, -, -, h7⟩⟩ := h
  · omega
  · exact ⟨g, cap, cur, h1, h2, h3, by rw [Nat.mul_one] at h7; exact h7⟩
def oldCells : List Value := [.string ⟨#[92]⟩, .string ⟨#[92, 92]⟩, .string ⟨#[34]⟩, .string ⟨#[92, 34]⟩, .string ⟨#[10]⟩, .string ⟨#[92, 110]⟩]
set_option maxRecDepth 100000 in
set_option maxHeartbeats 1600000 in
theorem newReplacer_calls (g : Nat) (w : World) (tt : TypeId) (fr : Nat × Nat) (hg : w.heap[g]? = some (.cells oldCells.toArray tt fr)) :
    Calls Tryz.prog 136 #[.slice (some ⟨g, 0, none⟩) 6 6] w fun e w' => ∃ gB gC cB, e = .returned (.pointer (some ⟨gC, 0, none⟩)) ∧ RowC gC gB cB w' #[.int .u32 0, .int .i32 0, .int .u32 0, .nilIface, .slice (some ⟨gB, 0, none⟩) 6 cB] ∧ oldRow gB w' ∧ gB ≠ gC ∧ w.heap.size ≤ gC ∧ Below w.heap.size w w' := by
  obtain ⟨i0, hi, hzz⟩ := Option.map_eq_some_iff.1 infoStr
  simp only [Prod.mk.injEq] at hzz
  have HZ := Lib.hid (show Tryz.prog.info? 9 = some i0 ∧ i0.zero = some (.string ⟨#[]⟩) ∧ i0.size = 1 ∧ i0.bytes = 16 from ⟨hi, hzz⟩)
  have HN := Lib.hid (show ∀ j u, oldCells[j]? = some u → w.cell? ((⟨g, 0, none⟩ : Addr).add j) = some u from fun j u hj => by
    have : (⟨g, 0, none⟩ : Addr).add j = ⟨g, j, none⟩ := by unfold Addr.add; split <;> simp_all
    rw [this]
    exact cellE hg j (by simpa using hj))
  have hbu : ∀ (p : Option Addr) (l c : Nat) (W : World), (Instr.build 204 #[(2, .slice p l c)]).run Tryz.prog W = .ok (.agg #[.int .u32 0, .int .i32 0, .int .u32 0, .nilIface, .slice p l c]) W := fun p l c W => run_build W _ _ _ (built_204 p l c)
  clear hi hzz hg
  go_enter Tryz.func136, Tryz.ntmps136
  go_wp2_with (refine wpList_append_own _ rfl (.const (.slice none 0 0)) (.tmp 8) 61 rfl w.heap.size 9 i0 (.string ⟨#[]⟩) 1 16 Tryz.underlying61 HZ.out.1 HZ.out.2.1 HZ.out.2.2.1 HZ.out.2.2.2 rfl (by omega) _ 0 [] rfl (World.ownsRow_nil _ _ _ _) ⟨g, 0, none⟩ 6 6 oldCells rfl rfl HN.out (by decide) (by decide) (by decide) (Nat.le_refl _) ?_; intro v' w' q1 q2 q3; obtain ⟨gB, cB, cur, rfl, r1, r2, r3⟩ := ownsRow_some q1 (by decide); have Q := Lib.hid (And.intro q2 (And.intro r1 (And.intro r2 r3))); clear q1 q2 q3 r1 r2 r3)
  go_ret
  obtain ⟨q2, r1, r2, r3⟩ := Q.out
  have hlt : gB < w'.heap.size := (Array.getElem?_eq_some_iff.1 r2).1
  have hb : Below w.heap.size w w' := (Below.refl _ w).grown q2 (Nat.le_refl _) (fun k hk => by simp [Act.eval, Value.ownBlock] at hk)
  have hat : ∀ j v, oldCells[j]? = some v → cur[j]? = some v := fun j v hj => by
    have h6 : j < 6 := (List.getElem?_eq_some_iff.1 hj).1
    rw [← Array.getElem?_toList, ← List.getElem?_take_of_lt (show j < 0 + 6 by omega), r3]
    exact hj
  refine ⟨gB, w'.heap.size, cB, rfl, ⟨heap_alloc_last w' _, rfl, rfl⟩, ⟨cur, 9, (0, 0), by rw [Below.heap_alloc _ _ _ hlt]; exact r2, hat 0 _ rfl, hat 1 _ rfl, hat 2 _ rfl, hat 3 _ rfl, hat 4 _ rfl, hat 5 _ rfl⟩, by omega, hb.size, hb.alloc hb.size _⟩

/-- labels.quoted, of a short value without bytes that are written otherwise. -/
def plainS (s : ByteArray) : Bool := s.data.toList.all fun c => plainB (c.toNat : Int)
def labels_quoted.f (a0 : ByteArray) : Option ByteArray := if a0.size < 24 ∧ plainS a0 = true then some ((⟨#[34]⟩ : ByteArray) ++ a0 ++ (⟨#[34]⟩ : ByteArray)) else none
set_option maxRecDepth 100000 in
set_option maxHeartbeats 1600000 in
theorem labels_quoted.calls (a0 : ByteArray) (r : ByteArray) (w : World) (h : labels_quoted.f a0 = some r) :
    Calls Tryz.prog 80 #[.string a0] w fun e w' => e = .returned (.string r) ∧ Below w.heap.size w w' := by
  have hc : a0.size < 24 ∧ plainS a0 = true := by
    apply Classical.byContradiction
    intro hn
    simp [labels_quoted.f, hn] at h
  have HR := Lib.hid (show (⟨#[34]⟩ : ByteArray) ++ a0 ++ (⟨#[34]⟩ : ByteArray) = r by simpa [labels_quoted.f, hc] using h)
  clear h
  obtain ⟨hs, hpl⟩ := hc
  have HP := Lib.hid (show ∀ k : Nat, k < a0.size → plainB (bt a0 k) = true from fun k hk => by
    have := List.all_eq_true.1 hpl ((a0.data.toList)[k]'(by rw [data_length]; exact hk)) (List.getElem_mem _)
    rw [bt_get a0 k hk] at this
    exact this)
  clear hpl
  have hg : (w.alloc (.cells oldCells.toArray 9)).heap[w.heap.size]? = some (.cells oldCells.toArray 9 (0, 0)) := heap_alloc_last w _
  have HN := Lib.hid (newReplacer_calls w.heap.size (w.alloc (.cells oldCells.toArray 9)) _ _ hg)
  clear hg
  have HB := Lib.hid (below_alloc (Below.refl _ w) (.cells oldCells.toArray 9))
  go_enter Tryz.func80, Tryz.ntmps80
  go_wp2_with (first | (go_at_call 136; refine HN.out.mono ?_; rintro e w' ⟨gB, gC, cB, rfl, n1, n2, n3, n4, n5⟩; have N := Lib.hid (And.intro n1 (And.intro n2 (And.intro n3 (And.intro n4 n5)))); clear n1 n2 n3 n4 n5) | (go_at_call 137; refine (replacer_calls w.heap.size _ _ _ _ _ N.out.1 N.out.2.1 N.out.2.2.1 (Nat.le_trans HB.out.size N.out.2.2.2.1) rfl rfl a0 hs HP.out).mono ?_; rintro e w'' ⟨rfl, n6⟩; have M := Lib.hid n6; clear n6))
  go_ret
  exact ⟨by have e := HR.out; simpa using e, HB.out.trans ((N.out.2.2.2.2.mono HB.out.size).trans M.out)⟩
end Go.Proofs.YtfkgbklkjnhipaaGreatDoor.P
