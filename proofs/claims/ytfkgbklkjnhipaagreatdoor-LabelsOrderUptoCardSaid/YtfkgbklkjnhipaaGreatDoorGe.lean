/- strings.Replacer over single bytes: build. -/
import Derived.Test.YtfkgbklkjnhipaaGreatDoorGd
import Derived.Great.Walk
import Derived.Laws.AppendOwn
import Derived.Lib.ConvBytes
import Derived.Laws.BytesString
import Derived.Deep.WholeRow
import Derived.Laws.CopyOwn
namespace Go.Proofs.YtfkgbklkjnhipaaGreatDoor.P
open Go.RowKit Go.Proofs.YtfkgbklkjnhipaaGreatDoorW.PrintWords Go.Proofs.YtfkgbklkjnhipaaGreatDoorW.PrintLast Go.Proofs.YtfkgbklkjnhipaaGreatDoorW.PrintMore
set_option linter.unusedVariables false
set_option linter.unusedSimpArgs false

/-- The replacer's row, where the first n of its bytes are laid: all others are nil. -/
structure RowE (cE : Array Value) (ok : Int → Bool) : Prop where
  size : cE.size = 257
  nil : ∀ b : Int, 0 ≤ b → b ≤ 255 → ok b = true → cE[b.toNat]? = some (.slice none 0 0)
theorem RowE.mono {c : Array Value} {ok ok' : Int → Bool} (h : RowE c ok) (hm : ∀ b, ok' b = true → ok b = true) : RowE c ok' := ⟨h.size, fun b h0 h1 h2 => h.nil b h0 h1 (hm b h2)⟩
theorem RowE.set {c : Array Value} {ok : Int → Bool} (h : RowE c ok) (j : Nat) (v : Value) (hj : ∀ b : Int, 0 ≤ b → b ≤ 255 → ok b = true → b.toNat ≠ j) : RowE (c.setIfInBounds j v) ok :=
  ⟨by simp [h.size], fun b h0 h1 h2 => by rw [Array.getElem?_setIfInBounds_ne (fun e => hj b h0 h1 h2 e.symm)]; exact h.nil b h0 h1 h2⟩

def bigCells (v : Value) : Array Value := (List.replicate 256 (Value.slice none 0 0) ++ [v]).toArray
theorem built_232 (p : Option Addr) (l c : Nat) : Tryz.prog.built 232 [(1, .slice p l c)] = some (bigCells (.slice p l c)) := by kernel_rfl
theorem zero_232 : (Tryz.prog.info? 232).map (fun i => (i.zero, i.size)) = some (some (.agg (bigCells (.slice none 0 0))), 257) := by kernel_rfl
theorem bigList (v : Value) : (bigCells v).toList = List.replicate 256 (Value.slice none 0 0) ++ [v] := rfl
theorem bigCells_size (v : Value) : (bigCells v).size = 257 := by
  rw [← Array.length_toList, bigList, List.length_append, List.length_replicate]; rfl
theorem bigCells_at (v : Value) (j : Nat) (h : j < 256) : (bigCells v)[j]? = some (.slice none 0 0) := by
  rw [← Array.getElem?_toList, bigList, List.getElem?_append_left (by rw [List.length_replicate]; exact h), List.getElem?_replicate, if_pos h]
theorem bigCells_256 (v : Value) : (bigCells v)[256]? = some v := by
  rw [← Array.getElem?_toList, bigList, List.getElem?_append_right (by rw [List.length_replicate]; exact Nat.le_refl _), List.length_replicate]; rfl
theorem rowE_big (v : Value) : RowE (bigCells v) (fun _ => true) := ⟨bigCells_size v, fun b h0 h1 _ => bigCells_at v _ (by omega)⟩
theorem bigCells_one (p : Option Addr) (l c : Nat) : (bigCells (.slice p l c)).all (·.oneCell') = true := by
  rw [Array.all_eq_true_iff_forall_mem]
  intro v hv
  rw [← Array.mem_toList_iff, bigList] at hv
  rcases List.mem_append.1 hv with h | h
  · rw [(List.mem_replicate.1 h).2]; rfl
  · rw [List.mem_singleton.1 h]; rfl

/-- An append in place, where there is room. -/
theorem wpList_append_room {P : Program} {ops : Array Oper} {rest : List Oper} {o : Oper} {a : Act} {w : World} {Q : Exit → Act → World → Prop} (hgd : o.guard = none) (N : Option Tmp) (hN : o.dst = N) (s x : Operand) (t e : TypeId)
    (ho : o.op = .call { callee := .builtin .append, args := #[s, x], argTypes := #[t, t] }) (i : TypeInfo) (ht : P.underlying t = some (.slice e)) (hi : P.info? e = some i)
    (g sLen sCap : Nat) (cur : Array Value) (hg : w.heap[g]? = some (.cells cur e (0, 0)))
    (ad : Addr) (m c : Nat) (hs : a.eval s = .slice (some ⟨g, 0, none⟩) sLen sCap) (hx : a.eval x = .slice (some ad) m c) (news : List Value) (hl : news.length = m * i.size) (hnews : ∀ j u, news[j]? = some u → w.cell? (ad.add j) = some u) (h1 : ∀ u ∈ news, u.oneCell' = true)
    (hroom : sLen + m ≤ sCap) (hfit : sLen * i.size + news.length ≤ cur.size)
    (h : wpList P ops Q rest (a.put N (.slice (some ⟨g, 0, none⟩) (sLen + m) sCap)) (w.setRow g (cur.toList.take (sLen * i.size) ++ news ++ cur.toList.drop (sLen * i.size + news.length)).toArray)) : wpList P ops Q (o :: rest) a w := by
  subst hN
  refine wpList_plain hgd fun K hK => ?_
  have hrun := run_append_room (P := P) w t o.type e i ht hi g sLen sCap cur hg ad m c news hl hnews h1 hroom hfit
  unfold Oper.wp execOp
  simp only [ho, resolve, invoke, builtin, List.map_toArray, List.map_cons, List.map_nil, hs, hx]
  rw [List.append_assoc] at hrun h
  simp [hrun, Result.andThen]
  exact hK _ _ h

theorem infoStr : (Tryz.prog.info? 9).map (fun i => (i.zero, i.size, i.bytes)) = some (some (.string ⟨#[]⟩), 1, 16) := by kernel_rfl
/-- The bytes that are not among the first k of those that are laid. -/
def okk (k : Nat) (b : Int) : Bool := !(decide (1 ≤ k) && b == 10) && !(decide (2 ≤ k) && b == 34) && !(decide (3 ≤ k) && b == 92)
/-- The build's state behind k rounds. -/
structure St (k : Nat) (B gD gE : Nat) (w w' : World) : Prop where
  below : Below B w w'
  row : ∃ c, w'.heap[gE]? = some (.cells c 232 (0, 0)) ∧ RowE c (okk k) ∧ c[256]? = some (.slice (some ⟨gD, 0, none⟩) k 3)
  lst : ∃ d : Array Value, w'.heap[gD]? = some (.cells d 9 (0, 0)) ∧ d.size = 3
theorem St.lt {k B gD gE : Nat} {w w' : World} (h : St k B gD gE w w') : gE < w'.heap.size ∧ gD < w'.heap.size := by
  obtain ⟨c, hc, _⟩ := h.row
  obtain ⟨d, hd, _⟩ := h.lst
  exact ⟨(Array.getElem?_eq_some_iff.1 hc).1, (Array.getElem?_eq_some_iff.1 hd).1⟩
theorem St.grow {k B gD gE : Nat} {w w' w'' : World} (h : St k B gD gE w w') (hb : Below w'.heap.size w' w'') (hB : B ≤ w'.heap.size) : St k B gD gE w w'' := by
  obtain ⟨h1, h2⟩ := h.lt
  obtain ⟨c, hc, hr⟩ := h.row
  obtain ⟨d, hd, hs⟩ := h.lst
  exact ⟨h.below.trans (hb.mono hB), ⟨c, (hb.block _ h1).trans hc, hr⟩, ⟨d, (hb.block _ h2).trans hd, hs⟩⟩
theorem St_init (w W2 : World) (e : W2 = ((w.alloc (.cells (madeCells #[.string ⟨#[]⟩] 3) 9)).alloc (.cells (bigCells (.slice none 0 0)) 232)).setRow (w.heap.size + 1) (bigCells (.slice (some ⟨w.heap.size, 0, none⟩) 0 3))) :
    St 0 w.heap.size w.heap.size (w.heap.size + 1) w W2 := by
  subst e
  have e1 : (w.alloc (.cells (madeCells #[.string ⟨#[]⟩] 3) 9)).heap.size = w.heap.size + 1 := by simp
  have hE := heap_alloc_last (w.alloc (.cells (madeCells #[.string ⟨#[]⟩] 3) 9)) (.cells (bigCells (.slice none 0 0)) 232)
  rw [e1] at hE
  refine ⟨?_, ⟨_, setRow_heap _ _ _ _ _ _ hE, (rowE_big _).mono (fun b h => by rfl), bigCells_256 _⟩, ⟨madeCells #[.string ⟨#[]⟩] 3, ?_, ?_⟩⟩
  · exact below_setRow (below_alloc (below_alloc (Below.refl _ w) _) _) (by omega) _
  · rw [setRow_other _ _ _ _ (by omega), Below.heap_alloc _ _ _ (by omega)]
    exact heap_alloc_last w _
  · exact size_madeCells _ _
theorem St_round {k o : Nat} {B gD gE : Nat} {w W5 : World} {c5 : Array Value} {d : Array Value} {u : Value} (hE : W5.heap[gE]? = some (.cells c5 232 (0, 0))) (hr : RowE c5 (okk k)) (h256 : c5[256]? = some (.slice (some ⟨gD, 0, none⟩) (k + 1 : Nat) 3))
    (hD : W5.heap[gD]? = some (.cells d 9 (0, 0))) (hds : d.size = 3) (hb : Below B w W5) (hBE : B ≤ gE) (hne : gD ≠ gE) (ho : o < 256) (hok : ∀ b : Int, okk (k + 1) b = true → okk k b = true ∧ b ≠ o) :
    St (k + 1) B gD gE w (W5.setCell ⟨gE, o, none⟩ u) := by
  rw [setCell_eq_setRow W5 gE o c5 _ _ u hE]
  refine ⟨below_setRow hb hBE _, ⟨_, setRow_heap _ _ _ _ _ _ hE, ?_, ?_⟩, ⟨d, ?_, hds⟩⟩
  · exact (hr.mono (fun b h => (hok b h).1) : RowE c5 (okk (k + 1))).set o u (fun b h0 h1 h2 e => (hok b h2).2 (by omega))
  · rw [Array.getElem?_setIfInBounds_ne (by omega)]; exact h256
  · rw [setRow_other _ _ _ _ hne]; exact hD
theorem conv1 (wr : World) (o : UInt8) : (convert 68 9 (.slice (some ⟨wr.heap.size, 0, none⟩) 1 1)).run Tryz.prog (wr.alloc (.cells #[.int .u8 (o.toNat : Int)] 5)) = .ok (.string ⟨#[o]⟩) (wr.alloc (.cells #[.int .u8 (o.toNat : Int)] 5)) :=
  run_convert_bytes_back _ 68 9 5 ⟨wr.heap.size, 0, none⟩ 1 [o] Tryz.underlying68 Tryz.underlying5 Tryz.underlying9 (fun j hj => by
    obtain rfl : j = 0 := by simpa using hj
    exact cellE (heap_alloc_last wr _) 0 rfl)
theorem round_facts {k k1 o : Nat} {B gD gE : Nat} {w wr W3 : World} {c d d' : Array Value} (s : ByteArray) (HS : St k B gD gE w wr) (hc : wr.heap[gE]? = some (.cells c 232 (0, 0))) (hr : RowE c (okk k)) (h256 : c[256]? = some (.slice (some ⟨gD, 0, none⟩) k 3))
    (hd : wr.heap[gD]? = some (.cells d 9 (0, 0))) (hd' : d'.size = 3) (X Y : Obj) (hW3 : W3 = ((wr.alloc X).alloc Y).setRow gD d') (hBE : B ≤ gE) (hBD : B ≤ gD) (hBw : B ≤ wr.heap.size) (hne : gD ≠ gE) (ho : o < 256) (hk : k1 = k + 1) (hio : okk k (o : Int) = true) (hok : ∀ b : Int, okk (k + 1) b = true → okk k b = true ∧ b ≠ o) :
    W3.cell? ⟨gE, 256, none⟩ = some (.slice (some ⟨gD, 0, none⟩) k 3) ∧ W3.frozen? ⟨gE, 256, none⟩ = false ∧
    ∃ (q : Option Addr) (cap : Nat) (W5 : World), (convert 9 68 (.string s)).run Tryz.prog (W3.setCell ⟨gE, 256, none⟩ (.slice (some ⟨gD, 0, none⟩) k1 3)) = .ok (.slice q s.size cap) W5 ∧
      W5.cell? ⟨gE, o, none⟩ = some (.slice none 0 0) ∧ W5.frozen? ⟨gE, o, none⟩ = false ∧ Hid (∀ u, St k1 B gD gE w (W5.setCell ⟨gE, o, none⟩ u)) := by
  subst hk
  obtain ⟨l1, l2⟩ := HS.lt
  have e3 : W3.heap[gE]? = some (.cells c 232 (0, 0)) := by
    rw [hW3, setRow_other _ _ _ _ (Ne.symm hne), Below.heap_alloc _ _ _ (by simp; omega), Below.heap_alloc _ _ _ l1]; exact hc
  have d3 : W3.heap[gD]? = some (.cells d' 9 (0, 0)) := by
    rw [hW3]
    refine setRow_heap _ _ d _ _ _ ?_
    rw [Below.heap_alloc _ _ _ (by simp; omega), Below.heap_alloc _ _ _ l2]; exact hd
  have b3 : Below B w W3 := by
    rw [hW3]
    exact below_setRow ((HS.below.alloc hBw _).alloc (by simp; omega) _) hBD _
  have hs3 : gE < W3.heap.size := (Array.getElem?_eq_some_iff.1 e3).1
  have hs3' : gD < W3.heap.size := (Array.getElem?_eq_some_iff.1 d3).1
  generalize hv : (Value.slice (some ⟨gD, 0, none⟩) (k + 1) 3) = v
  have e4 : (W3.setCell ⟨gE, 256, none⟩ v).heap[gE]? = some (.cells (c.setIfInBounds 256 v) 232 (0, 0)) := by
    rw [setCell_eq_setRow W3 gE 256 c _ _ v e3]; exact setRow_heap _ _ _ _ _ _ e3
  have d4 : (W3.setCell ⟨gE, 256, none⟩ v).heap[gD]? = some (.cells d' 9 (0, 0)) := by
    rw [Below.heap_setCell _ _ _ _ hne]; exact d3
  have b4 : Below B w (W3.setCell ⟨gE, 256, none⟩ v) := b3.setCell hBE _
  generalize hW4 : W3.setCell ⟨gE, 256, none⟩ v = W4 at e4 d4 b4
  have hs4 : gE < W4.heap.size := (Array.getElem?_eq_some_iff.1 e4).1
  have hs4' : gD < W4.heap.size := (Array.getElem?_eq_some_iff.1 d4).1
  have e5 := (Lib.bytesWorld_at_old W4 5 s gE hs4).trans e4
  have d5 := (Lib.bytesWorld_at_old W4 5 s gD hs4').trans d4
  have b5 : Below B w (Lib.bytesWorld W4 5 s) := b4.trans ((bytesWorld_below W4 _ s).mono (by omega))
  have hr5 : RowE (c.setIfInBounds 256 v) (okk k) := hr.set 256 v (fun b h0 h1 h2 e => by omega)
  have h256' : (c.setIfInBounds 256 v)[256]? = some v := by rw [Array.getElem?_setIfInBounds_self]; simp [hr.size]
  refine ⟨cellE e3 256 h256, by simp [World.frozen?, e3], _, _, _, Lib.run_convert_string_bytes W4 9 68 5 s Tryz.underlying9 Tryz.underlying68 Tryz.underlying5, ?_, by simp [World.frozen?, e5], fun u => ?_⟩
  · have := hr5.nil o (by omega) (by omega) hio
    exact cellE e5 o (by simpa using this)
  · subst hv
    exact St_round e5 hr5 h256' d5 hd' b5 hBE hne ho hok
/-- What the build leaves: the replacer's row, for bytes that stay. -/
def Rep (gE : Nat) (w : World) : Prop := ∃ c t gD, w.heap[gE]? = some (.cells c t (0, 0)) ∧ c[256]? = some (.slice gD 3 3) ∧ ∀ b : Int, 0 ≤ b → b ≤ 255 → plainB b = true → c[b.toNat]? = some (.slice none 0 0)

set_option maxRecDepth 100000 in
set_option maxHeartbeats 4000000 in
theorem build_calls (gB gC cB : Nat) (cb cc : Array Value) (tB tC : TypeId) (fB fC : Nat × Nat) (w : World) (hC : w.heap[gC]? = some (.cells cc tC fC)) (hB : w.heap[gB]? = some (.cells cb tB fB)) (hc4 : cc[4]? = some (.slice (some ⟨gB, 0, none⟩) 6 cB))
    (h0 : cb[0]? = some (.string ⟨#[92]⟩)) (h1 : cb[1]? = some (.string ⟨#[92, 92]⟩)) (h2 : cb[2]? = some (.string ⟨#[34]⟩)) (h3 : cb[3]? = some (.string ⟨#[92, 34]⟩)) (h4 : cb[4]? = some (.string ⟨#[10]⟩)) (h5 : cb[5]? = some (.string ⟨#[92, 110]⟩)) :
    Calls Tryz.prog 187 #[.pointer (some ⟨gC, 0, none⟩)] w fun e w' => ∃ gE, e = .returned (.iface 233 (.pointer (some ⟨gE, 0, none⟩))) ∧ w.heap.size ≤ gE ∧ Rep gE w' ∧ Below w.heap.size w w' := by
  have c4 := cellE hC 4 hc4
  have b0 := cellE hB 0 h0
  have b1 := cellE hB 1 h1
  have b2 := cellE hB 2 h2
  have b3 := cellE hB 3 h3
  have b4 := cellE hB 4 h4
  have b5 := cellE hB 5 h5
  have lB : gB < w.heap.size := (Array.getElem?_eq_some_iff.1 hB).1
  have HB := Lib.hid hB
  obtain ⟨i0, hi0, hi1⟩ : ∃ i0, Tryz.prog.info? 9 = some i0 ∧ i0.size = 1 := by
    obtain ⟨i0, hi, hzz⟩ := Option.map_eq_some_iff.1 infoStr
    simp only [Prod.mk.injEq] at hzz
    exact ⟨i0, hi, hzz.2.1⟩
  have HI := Lib.hid (show Tryz.prog.info? 9 = some i0 ∧ i0.size = 1 from ⟨hi0, hi1⟩)
  clear hi0 hi1
  have HMK := Lib.hid (show ∀ W : World, (Instr.makeSlice 61 (.int .i64 0) (.int .i64 3)).run Tryz.prog W = .ok (.slice (some ⟨W.heap.size, 0, none⟩) 0 3) (W.alloc (.cells (madeCells #[.string ⟨#[]⟩] 3) 9)) from fun W => by
    obtain ⟨i0, hi, hzz⟩ := Option.map_eq_some_iff.1 infoStr
    simp only [Prod.mk.injEq] at hzz
    obtain ⟨hz0, hz1, hz2⟩ := hzz
    have hr := run_make (P := Tryz.prog) W 61 9 i0 (.string ⟨#[]⟩) Tryz.underlying61 hi hz0 .i64 .i64 0 3 (by omega) (by omega) (by rw [hz2]; omega) (by omega)
    rw [hz1] at hr
    exact hr)
  clear hC hB hc4 h0 h1 h2 h3 h4 h5
  go_enter Tryz.func187, Tryz.ntmps187
  go_wp2
  go_loop [4, 5] (fun a i => ∃ k : Nat, k ≤ 3 ∧ i = .int .i64 (2 * k : Nat) ∧ a = .bool (k == 0)) (fun _ i => 6 - (intOf i).toNat)
  case atStart => exact ⟨0, Nat.zero_le _, rfl, rfl⟩
  case round =>
    obtain ⟨k, hk, rfl, rfl⟩ := hrel
    obtain rfl | rfl | rfl | rfl : k = 0 ∨ k = 1 ∨ k = 2 ∨ k = 3 := by omega
    · go_wp2
      go_round
      case rel => exact ⟨1, by omega, rfl, rfl⟩
      case measure => simp [intOf]
    · go_wp2
      go_round
      case rel => exact ⟨2, by omega, rfl, rfl⟩
      case measure => simp [intOf]
    · go_wp2
      go_round
      case rel => exact ⟨3, by omega, rfl, rfl⟩
      case measure => simp [intOf]
    · have hmk : ∀ W : World, (Instr.makeSlice 61 (.int .i64 0) (.int .i64 3)).run Tryz.prog W = .ok (.slice (some ⟨W.heap.size, 0, none⟩) 0 3) (W.alloc (.cells (madeCells #[.string ⟨#[]⟩] 3) 9)) := HMK.out
      have hbu : ∀ (p : Option Addr) (l c : Nat) (W : World), (Instr.build 232 #[(1, .slice p l c)]).run Tryz.prog W = .ok (.agg (bigCells (.slice p l c))) W := fun p l c W => run_build W _ _ _ (built_232 p l c)
      have hz : ∀ W : World, (zeroValue 232).run Tryz.prog W = .ok (.agg (bigCells (.slice none 0 0))) W := (zero_of_info zero_232).1
      have hfin := St_init w
      have HF := Lib.hid hfin
      clear hfin
      go_wp2_with (refine wpList_store_row rfl 232 (.tmp 11) (.tmp 95) rfl (w.heap.size + 1) (bigCells (.slice (some ⟨w.heap.size, 0, none⟩) 0 3)) rfl rfl 232 (bigCells (.slice none 0 0)) ?_ ?_ ?_ ?_ ?_)
      · have hE := heap_alloc_last (w.alloc (.cells (madeCells #[.string ⟨#[]⟩] 3) 9)) (.cells (bigCells (.slice none 0 0)) 232)
        simpa using hE
      · rw [bigCells_size]; exact (zero_of_info zero_232).2
      · rw [bigCells_size, bigCells_size]
      · exact bigCells_one _ _ _
      generalize hw2 : World.setRow _ _ _ = w2
      have H2 := Lib.hid (HF.out w2 hw2.symm)
      clear hw2 HF HMK hmk hz hbu
      go_wp2
      go_loopw [12] (fun i wr => ∃ k : Nat, k ≤ 3 ∧ i = .int .i64 (4 - 2 * (k : Int)) ∧ Hid (St k w.heap.size w.heap.size (w.heap.size + 1) w wr)) (fun i _ => (intOf i + 2).toNat)
      case atStart => exact ⟨0, Nat.zero_le _, rfl, H2⟩
      case round =>
        obtain ⟨k, hk, rfl, HS⟩ := hrel
        have hold : ∀ j v, w.cell? ⟨gB, j, none⟩ = some v → wr.cell? ⟨gB, j, none⟩ = some v := fun j v h => (HS.out.below.cell (p := ⟨gB, j, none⟩) lB).trans h
        have d0 := hold _ _ b0
        have d1 := hold _ _ b1
        have d2 := hold _ _ b2
        have d3 := hold _ _ b3
        have d4 := hold _ _ b4
        have d5 := hold _ _ b5
        clear hold b0 b1 b2 b3 b4 b5 c4
        obtain ⟨c, hc, hr, h256⟩ := HS.out.row
        obtain ⟨d, hd, hds⟩ := HS.out.lst
        have HC := Lib.hid hc
        have HR := Lib.hid hr
        have HD := Lib.hid hd
        have HDS := Lib.hid hds
        have e256 := cellE hc 256 h256
        have f256 : wr.frozen? ⟨w.heap.size + 1, 256, none⟩ = false := by simp [World.frozen?, hc]
        obtain rfl | rfl | rfl | rfl : k = 0 ∨ k = 1 ∨ k = 2 ∨ k = 3 := by omega
        · have eo := cellE hc 10 (hr.nil 10 (by omega) (by omega) (by rfl))
          have x10 : ∀ h, (((⟨#[10]⟩ : ByteArray)[0]'h).toNat) = 10 := fun _ => rfl
          have hcv1 : (convert 68 9 (.slice (some ⟨wr.heap.size, 0, none⟩) 1 1)).run Tryz.prog (wr.alloc (.cells #[.int .u8 10] 5)) = .ok (.string ⟨#[10]⟩) (wr.alloc (.cells #[.int .u8 10] 5)) := conv1 wr 10
          have HRF := Lib.hid (fun d' hd' W3 hW3 => round_facts (k := 0) (k1 := 1) (o := 10) (W3 := W3) (d' := d') ⟨#[92, 110]⟩ HS.out hc hr h256 hd hd' (.cells #[.int .u8 10] 5) (.cells #[.string ⟨#[10]⟩] 9) hW3 (Nat.le_succ _) (Nat.le_refl _) HS.out.below.size (by omega) (by omega) rfl (by rfl) (fun b h => by simp [okk] at h ⊢; omega))
          have HDD := Lib.hid (show ((wr.alloc (.cells #[.int .u8 10] 5)).alloc (.cells #[.string ⟨#[10]⟩] 9)).heap[w.heap.size]? = some (.cells d 9 (0, 0)) from by
            rw [Below.heap_alloc _ _ _ (by simp; have := HS.out.lt; omega), Below.heap_alloc _ _ _ HS.out.lt.2]; exact hd)
          have HNW := Lib.hid (show ∀ j u, ([.string ⟨#[10]⟩] : List Value)[j]? = some u → ((wr.alloc (.cells #[.int .u8 10] 5)).alloc (.cells #[.string ⟨#[10]⟩] 9)).cell? ((⟨wr.heap.size + 1, 0, none⟩ : Addr).add j) = some u from fun j u hj => by
            obtain ⟨rfl, rfl⟩ : j = 0 ∧ u = .string ⟨#[10]⟩ := by
              rcases j with _ | j
              · exact ⟨rfl, by simpa using hj.symm⟩
              · simp at hj
            have h2 := cellE (heap_alloc_last (wr.alloc (.cells #[.int .u8 10] 5)) (.cells #[.string ⟨#[10]⟩] 9)) 0 rfl
            have h3 : (wr.alloc (.cells #[.int .u8 10] 5)).heap.size = wr.heap.size + 1 := by simp
            rw [h3] at h2
            exact h2)
          clear hc hr h256 hd hds
          go_wp2_with (first | (refine wpList_nilTest rfl true (.tmp 116) 68 68 5 rfl Tryz.underlying68 none 0 0 rfl true rfl ?_) | (refine wpList_append_room rfl (some 124) rfl (.tmp 119) (.tmp 123) 61 9 rfl i0 Tryz.underlying61 HI.out.1 w.heap.size 0 3 d HDD.out ⟨wr.heap.size + 1, 0, none⟩ 1 1 rfl rfl [.string ⟨#[10]⟩] (by rw [HI.out.2]; rfl) HNW.out (fun u hu => by rw [List.mem_singleton.1 hu]; rfl) (by omega) (by rw [HI.out.2, HDS.out]; simp) ?_; generalize hW3 : World.setRow _ _ _ = W3; obtain ⟨e256', f256', q5, cap5, W5, hcv2, eo5, fo5, HS5⟩ := HRF.out _ (by rw [HI.out.2]; simp [HDS.out]) W3 hW3.symm; clear hW3 e256 f256 eo hcv1))
          refine ⟨⟨1, by omega, rfl, HS5.out _⟩, ?_⟩
          simp [intOf]
        · have eo := cellE hc 34 (hr.nil 34 (by omega) (by omega) (by rfl))
          have x10 : ∀ h, (((⟨#[34]⟩ : ByteArray)[0]'h).toNat) = 34 := fun _ => rfl
          have hcv1 : (convert 68 9 (.slice (some ⟨wr.heap.size, 0, none⟩) 1 1)).run Tryz.prog (wr.alloc (.cells #[.int .u8 34] 5)) = .ok (.string ⟨#[34]⟩) (wr.alloc (.cells #[.int .u8 34] 5)) := conv1 wr 34
          have HRF := Lib.hid (fun d' hd' W3 hW3 => round_facts (k := 1) (k1 := 2) (o := 34) (W3 := W3) (d' := d') ⟨#[92, 34]⟩ HS.out hc hr h256 hd hd' (.cells #[.int .u8 34] 5) (.cells #[.string ⟨#[34]⟩] 9) hW3 (Nat.le_succ _) (Nat.le_refl _) HS.out.below.size (by omega) (by omega) rfl (by rfl) (fun b h => by simp [okk] at h ⊢; omega))
          have HDD := Lib.hid (show ((wr.alloc (.cells #[.int .u8 34] 5)).alloc (.cells #[.string ⟨#[34]⟩] 9)).heap[w.heap.size]? = some (.cells d 9 (0, 0)) from by
            rw [Below.heap_alloc _ _ _ (by simp; have := HS.out.lt; omega), Below.heap_alloc _ _ _ HS.out.lt.2]; exact hd)
          have HNW := Lib.hid (show ∀ j u, ([.string ⟨#[34]⟩] : List Value)[j]? = some u → ((wr.alloc (.cells #[.int .u8 34] 5)).alloc (.cells #[.string ⟨#[34]⟩] 9)).cell? ((⟨wr.heap.size + 1, 0, none⟩ : Addr).add j) = some u from fun j u hj => by
            obtain ⟨rfl, rfl⟩ : j = 0 ∧ u = .string ⟨#[34]⟩ := by
              rcases j with _ | j
              · exact ⟨rfl, by simpa using hj.symm⟩
              · simp at hj
            have h2 := cellE (heap_alloc_last (wr.alloc (.cells #[.int .u8 34] 5)) (.cells #[.string ⟨#[34]⟩] 9)) 0 rfl
            have h3 : (wr.alloc (.cells #[.int .u8 34] 5)).heap.size = wr.heap.size + 1 := by simp
            rw [h3] at h2
            exact h2)
          clear hc hr h256 hd hds
          go_wp2_with (first | (refine wpList_nilTest rfl true (.tmp 116) 68 68 5 rfl Tryz.underlying68 none 0 0 rfl true rfl ?_) | (refine wpList_append_room rfl (some 124) rfl (.tmp 119) (.tmp 123) 61 9 rfl i0 Tryz.underlying61 HI.out.1 w.heap.size 1 3 d HDD.out ⟨wr.heap.size + 1, 0, none⟩ 1 1 rfl rfl [.string ⟨#[34]⟩] (by rw [HI.out.2]; rfl) HNW.out (fun u hu => by rw [List.mem_singleton.1 hu]; rfl) (by omega) (by rw [HI.out.2, HDS.out]; simp) ?_; generalize hW3 : World.setRow _ _ _ = W3; obtain ⟨e256', f256', q5, cap5, W5, hcv2, eo5, fo5, HS5⟩ := HRF.out _ (by rw [HI.out.2]; simp [HDS.out]) W3 hW3.symm; clear hW3 e256 f256 eo hcv1))
          refine ⟨⟨2, by omega, rfl, HS5.out _⟩, ?_⟩
          simp [intOf]
        · have eo := cellE hc 92 (hr.nil 92 (by omega) (by omega) (by rfl))
          have x10 : ∀ h, (((⟨#[92]⟩ : ByteArray)[0]'h).toNat) = 92 := fun _ => rfl
          have hcv1 : (convert 68 9 (.slice (some ⟨wr.heap.size, 0, none⟩) 1 1)).run Tryz.prog (wr.alloc (.cells #[.int .u8 92] 5)) = .ok (.string ⟨#[92]⟩) (wr.alloc (.cells #[.int .u8 92] 5)) := conv1 wr 92
          have HRF := Lib.hid (fun d' hd' W3 hW3 => round_facts (k := 2) (k1 := 3) (o := 92) (W3 := W3) (d' := d') ⟨#[92, 92]⟩ HS.out hc hr h256 hd hd' (.cells #[.int .u8 92] 5) (.cells #[.string ⟨#[92]⟩] 9) hW3 (Nat.le_succ _) (Nat.le_refl _) HS.out.below.size (by omega) (by omega) rfl (by rfl) (fun b h => by simp [okk] at h ⊢; omega))
          have HDD := Lib.hid (show ((wr.alloc (.cells #[.int .u8 92] 5)).alloc (.cells #[.string ⟨#[92]⟩] 9)).heap[w.heap.size]? = some (.cells d 9 (0, 0)) from by
            rw [Below.heap_alloc _ _ _ (by simp; have := HS.out.lt; omega), Below.heap_alloc _ _ _ HS.out.lt.2]; exact hd)
          have HNW := Lib.hid (show ∀ j u, ([.string ⟨#[92]⟩] : List Value)[j]? = some u → ((wr.alloc (.cells #[.int .u8 92] 5)).alloc (.cells #[.string ⟨#[92]⟩] 9)).cell? ((⟨wr.heap.size + 1, 0, none⟩ : Addr).add j) = some u from fun j u hj => by
            obtain ⟨rfl, rfl⟩ : j = 0 ∧ u = .string ⟨#[92]⟩ := by
              rcases j with _ | j
              · exact ⟨rfl, by simpa using hj.symm⟩
              · simp at hj
            have h2 := cellE (heap_alloc_last (wr.alloc (.cells #[.int .u8 92] 5)) (.cells #[.string ⟨#[92]⟩] 9)) 0 rfl
            have h3 : (wr.alloc (.cells #[.int .u8 92] 5)).heap.size = wr.heap.size + 1 := by simp
            rw [h3] at h2
            exact h2)
          clear hc hr h256 hd hds
          go_wp2_with (first | (refine wpList_nilTest rfl true (.tmp 116) 68 68 5 rfl Tryz.underlying68 none 0 0 rfl true rfl ?_) | (refine wpList_append_room rfl (some 124) rfl (.tmp 119) (.tmp 123) 61 9 rfl i0 Tryz.underlying61 HI.out.1 w.heap.size 2 3 d HDD.out ⟨wr.heap.size + 1, 0, none⟩ 1 1 rfl rfl [.string ⟨#[92]⟩] (by rw [HI.out.2]; rfl) HNW.out (fun u hu => by rw [List.mem_singleton.1 hu]; rfl) (by omega) (by rw [HI.out.2, HDS.out]; simp) ?_; generalize hW3 : World.setRow _ _ _ = W3; obtain ⟨e256', f256', q5, cap5, W5, hcv2, eo5, fo5, HS5⟩ := HRF.out _ (by rw [HI.out.2]; simp [HDS.out]) W3 hW3.symm; clear hW3 e256 f256 eo hcv1))
          refine ⟨⟨3, by omega, rfl, HS5.out _⟩, ?_⟩
          simp [intOf]
        · have HRep : Hid (Rep (w.heap.size + 1) wr) := by
            refine ⟨c, _, _, hc, h256, fun b h0 h1 h2 => hr.nil b h0 h1 ?_⟩
            simp [plainB] at h2
            simp [okk, h2]
          have HBel := Lib.hid HS.out.below
          clear hc hr h256 hd hds HC HR HD HDS
          go_wp2
          go_ret
          exact ⟨_, rfl, Nat.le_succ _, HRep.out, HBel.out⟩
end Go.Proofs.YtfkgbklkjnhipaaGreatDoor.P
