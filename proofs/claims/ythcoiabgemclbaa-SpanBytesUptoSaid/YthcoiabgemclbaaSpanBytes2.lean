/- Part 2 of the texts that the claim leans on: the functions' walks, and what they compute. -/
import Derived.Test.YthcoiabgemclbaaSpanBytes1
import Derived.StillTailTactics
import Derived.BigQuiet
import Derived.Maps.Own
import Derived.Maps.OwnOps
import Derived.Maps.Views
import Derived.RangeFuncNested
import Derived.RangeFuncLeaves
import Derived.RangeFuncWrites
import Derived.Shelf.Abstract
import Derived.WalkKit
import Derived.WalkMore
import Derived.OwnWalkIn
import Derived.TacticsInMore
import Derived.LoopNIn
import Derived.LoopIn
import Derived.Sort.OwnSorted
import Derived.Deep.RegionWith
import Derived.RangeFuncBox
import Derived.RangeFuncCalls
import Derived.Stop.RegionWithIn
import Derived.Below
import Derived.Maps.OwnIn
import Derived.KernelRfl
/- slices.DeleteFunc at spans. -/
namespace Go.Proofs.Ythcoiabgemclbaa.PD
open Go.RowKit Go.Proofs.YthcoiabgemclbaaW.PrintWords Go.Proofs.YthcoiabgemclbaaW.PrintLast Go.Proofs.YthcoiabgemclbaaW.PrintMore
attribute [local go_sem] isSome_setCell max2_int min2_int max_two min_two
set_option linter.unusedVariables false
set_option linter.unusedSimpArgs false
theorem clear_run (w : World) (ty : TypeId) (g o n c : Nat) {cur : Array Value} (hh : w.heap[g]? = some (.cells cur 25 (0, 0))) (hn : 0 < n) (hfit : o + n * 3 ≤ cur.size) :
    ∃ zs : List Value, zs.length = n * 3 ∧ (Builtin.clear_ #[22] ty #[.slice (some ⟨g, o, none⟩) n c]).run Try.prog w = .ok (.tuple #[]) (w.setCells g o zs) := by
  have hl : (Builtin.zeroCells (Value.agg #[(.string ⟨#[]⟩), (.int .i64 0), (.int .i64 0)]).cells n).toList.length = n * 3 := by simp [Builtin.zeroCells, Value.cells]
  refine ⟨_, hl, ?_⟩
  have hst := run_storeCells_cells (P := Try.prog) g o (Builtin.zeroCells (Value.agg #[(.string ⟨#[]⟩), (.int .i64 0), (.int .i64 0)]).cells n).toList 0 w
    (fun j hj => by rw [cell_of_row w g _ cur 25 (0, 0) hh]; rw [hl] at hj; simp; omega) (fun j _ => blk_frozen hh _)
    (by
      intro v hv
      simp only [Builtin.zeroCells, Value.cells, Array.toList_map, List.mem_map] at hv
      obtain ⟨i, _, rfl⟩ := hv
      have : i % 3 = 0 ∨ i % 3 = 1 ∨ i % 3 = 2 := by omega
      rcases this with h | h | h <;> simp [h, Value.oneCell'])
  simp only [Nat.add_zero] at hst
  obtain ⟨m, rfl⟩ : ∃ m, n = m + 1 := ⟨n - 1, by omega⟩
  have hz : (zeroValue 25).run Try.prog w = .ok (.agg #[(.string ⟨#[]⟩), (.int .i64 0), (.int .i64 0)]) w := by
    have := Try.zeroValue25
    exact this _
  simp [Builtin.clear_, run_underlying Try.underlying22, hz, hst]
/-- What lies behind the first m spans of a row may change. -/
theorem R_cut {g n cap m : Nat} {W : World} {base : Nat} {xs : List S25} (h : Kd.R k25 25 W base (fun k => k = g) (.slice (some ⟨g, 0, none⟩) n cap) xs) (hm : m ≤ n) (zs : List Value) (hz : m * 3 + zs.length ≤ n * 3) :
    Kd.R k25 25 (W.setCells g (m * 3) zs) base (fun k => k = g) (.slice (some ⟨g, 0, none⟩) m cap) (xs.take m) ∧ W.grownBy (W.setCells g (m * 3) zs) (some g) := by
  have hn := (Kd.R_reads' h).1
  have ht := Kd.R_take h (m := m) (by omega)
  obtain ⟨s1, s2, s3, s4⟩ := setCells_same g zs (m * 3) W
  have hgr : W.grownBy (W.setCells g (m * 3) zs) (some g) := ⟨s1, s2, s3, by rw [s4]; exact Nat.le_refl _, fun k _ hk => setCells_far _ _ k (fun he => hk (by rw [he]))⟩
  refine ⟨?_, hgr⟩
  obtain ⟨hok, inner, hown, hrep⟩ := ht
  obtain ⟨_, inner0, hown0, _⟩ := h
  have e : (xs.take m).length = m := by rw [List.length_take]; omega
  rw [e] at hown
  rw [← hn] at hown0
  refine ⟨hok, inner, ?_, hrep.imp_ (fun x c hM => ?_)⟩
  · rw [e]
    refine ⟨hown.1, ?_⟩
    rcases hown.2 with ⟨hv, _⟩ | ⟨g', cap', cur, hv, hb, hh, hnc, hcm, hcs, htake⟩
    · cases hv
    cases hv
    rcases hown0.2 with ⟨hv, _⟩ | ⟨g', cap', cur0, hv, hb0, hh0, hnc0, hcm0, hcs0, htake0⟩
    · cases hv
    cases hv
    have hcs2 : cur.size = cap * 3 := hcs
    have htk : cur.toList.take (m * 3) = inner := htake
    subst htk
    obtain ⟨cur', q3, q4, q5⟩ := setCells_row zs (m * 3) W cur hh (by omega)
    refine .inr ⟨g, cap, cur', rfl, hb, q3, hnc, hcm, by rw [q4, hcs], ?_⟩
    show cur'.toList.take (m * 3) = cur.toList.take (m * 3)
    rw [q5]
    rw [List.append_assoc, List.take_append_of_le_length (by rw [List.length_take, Array.length_toList]; omega), List.take_take, Nat.min_self]
  · obtain rfl := k25_openM hM
    exact k25_mkM _ _ _ _
theorem box3_store (W : World) (g : Nat) (a b c x y z : Value) (h : W.heap[g]? = some (.cells #[a, b, c] 25 (0, 0))) :
    (((W.setCell ⟨g, 0, none⟩ x).setCell ⟨g, 1, none⟩ y).setCell ⟨g, 2, none⟩ z).heap[g]? = some (.cells #[x, y, z] 25 (0, 0)) := by
  have h1 := blk_set h 0 x
  have h2 := blk_set h1 1 y
  have h3 := blk_set h2 2 z
  simpa using h3
theorem cc3 {W : World} {g o : Nat} {a b c : Value} (h0 : W.cell? ⟨g, o, none⟩ = some a) (h1 : W.cell? ⟨g, o + 1, none⟩ = some b) (h2 : W.cell? ⟨g, o + 2, none⟩ = some c) : ∀ j u, [a, b, c][j]? = some u → W.cell? ⟨g, o + j, none⟩ = some u := by
  intro j u hu
  rcases j with _ | _ | _ | j
  · simp at hu; subst hu; exact h0
  · simp at hu; subst hu; exact h1
  · simp at hu; subst hu; exact h2
  · simp at hu
theorem World.below_box3 {W w1 : World} {g : Nat} {x y z : Value} (h : Below W.heap.size W w1) (hg : g = W.heap.size) : Below W.heap.size W (((w1.setCell ⟨g, 0, none⟩ x).setCell ⟨g, 1, none⟩ y).setCell ⟨g, 2, none⟩ z) := by
  have : W.heap.size ≤ g := by omega
  exact below_set (below_set (below_set h this) this) this
set_option maxRecDepth 100000 in
set_option maxHeartbeats 4000000 in
theorem delete_calls (base B : Nat) (nm : ByteArray) (v : Value) (l : List S25) (w : World) (hr : Kd.R k25 25 w base (fun _ => True) v l) (hB : Boxed w B 9 (.string nm)) (hbs : base ≤ w.heap.size) :
    Calls Try.prog 30 #[v, .func (.func 31) #[] #[.pointer (some ⟨B, 0, none⟩)]] w fun e w' => ∃ v', e = .returned v' ∧ Kd.R k25 25 w' base (fun _ => True) v' (dropL l nm) ∧ Below base w w' := by
  obtain ⟨A, c, rfl⟩ := Kd.R_slice hr
  have hC := (Kd.R_reads' hr).2.2
  have hcc := (Kd.R_reads' hr).2.1
  have hidx := indexSp 31 Try.f31 Try.func31 (by kernel_rfl) rfl #[.pointer (some ⟨B, 0, none⟩)] (fun x => sameN x.f0 nm) A c l w hC
    (fun x _ W hb => drop1_calls B nm x W (boxed_below hB hb))
  have hml : l.length ≤ 9223372036854775807 := by have := hC.2.1; unfold maxLen at this; omega
  cases hfi : l.findIdx? (fun x => sameN x.f0 nm) with
  | none =>
    have e1 : idxP (fun x => sameN x.f0 nm) l = -1 := by unfold idxP; rw [hfi]
    rw [e1] at hidx
    have e2 : dropL l nm = l := by
      unfold dropL
      rw [List.filter_eq_self]
      intro x hx
      rw [List.findIdx?_eq_none_iff] at hfi
      simp [hfi x hx]
    rw [e2]
    have HI := Aside0.mk hidx
    have HR := Aside0.mk hr
    clear hidx hr hC hB
    go_enter Try.func30, Try.ntmps30
    go_wp2_with (go_at_call 54; refine HI.out.mono ?_; rintro e w' ⟨rfl, hb⟩)
    go_ret
    exact ⟨_, rfl, Kd.R_below HR.out hb, hb.mono hbs⟩
  | some k0 =>
    have e1 : idxP (fun x => sameN x.f0 nm) l = (k0 : Int) := by unfold idxP; rw [hfi]
    rw [e1] at hidx
    rw [List.findIdx?_eq_some_iff_getElem] at hfi
    obtain ⟨hk0, ht0, hno⟩ := hfi
    have e2 : (l.take (k0 + 1)).filter (fun x => !sameN x.f0 nm) = l.take k0 := by
      rw [List.take_add_one, List.filter_append]
      have h1 : (l.take k0).filter (fun x => !sameN x.f0 nm) = l.take k0 := by
        rw [List.filter_eq_self]
        intro x hx
        obtain ⟨j, hj, rfl⟩ := List.getElem_of_mem hx
        rw [List.length_take] at hj
        rw [List.getElem_take]
        have := hno j (by omega)
        simpa using this
      rw [h1, List.getElem?_eq_getElem hk0]
      simp [ht0]
    obtain ⟨g, cap, hAe, hbg, hglt, cells, hcells⟩ := Kd.R_form hr (by omega)
    injection hAe with hA' _ hc'
    subst hA' hc'
    have hne1 : ((k0 : Int) == -1) = false := beq_eq_false_iff_ne.2 (by omega)
    have hgB : g ≠ B := by
      rintro rfl
      have h1 := hB
      unfold Boxed at h1
      rw [hcells] at h1
      simp at h1
    have hRg : Kd.R k25 25 w base (fun k => k = g) (.slice (some ⟨g, 0, none⟩) l.length c) l := by
      refine ⟨fun k hk => ?_, hr.2.imp_ (fun x cs hM => ?_)⟩
      · simp [Value.ownBlock] at hk; omega
      · obtain rfl := k25_openM hM
        exact k25_mkM _ _ _ _
    have HI := Aside0.mk hidx
    have HR := Aside0.mk hRg
    have HB := Aside0.mk hB
    have HE := Aside0.mk e2
    clear hidx hr hC hRg hB e2 e1 hno ht0 hcells
    go_enter Try.func30, Try.ntmps30
    go_wp2_with (go_at_call 54; refine HI.out.mono ?_; rintro e w1 ⟨rfl, hb⟩)
    have HR1 := Aside0.mk (Kd.R_below HR.out hb)
    have HB1 := Aside0.mk (boxed_below HB.out hb)
    have HW1 := Aside0.mk (hb.mono hbs)
    have hg1 : g < w1.heap.size := Nat.lt_of_lt_of_le hglt hb.size
    have hb1 : base ≤ w1.heap.size := Nat.le_trans hbs hb.size
    clear hb HI
    go_loopw [5, 6, 7] (fun s5 s6 _ wr => ∃ (i j : Nat) (rows : List S25), s5 = .int .i64 (i : Int) ∧ s6 = .int .i64 (j : Int) ∧ i < j ∧ j ≤ l.length ∧ rows.length = l.length ∧ Aside0 (rows.take i = (l.take j).filter (fun x => !sameN x.f0 nm)) ∧ Aside0 (rows.drop j = l.drop j) ∧
        Aside0 (Kd.R k25 25 wr base (fun k => k = g) (.slice (some ⟨g, 0, none⟩) l.length c) rows) ∧ Aside0 (Boxed wr B 9 (.string nm)) ∧ Aside0 (Below base w wr) ∧ g < wr.heap.size ∧ base ≤ wr.heap.size)
      (fun _ s6 _ _ => l.length - (intOf s6).toNat)
    case atStart => exact ⟨k0, k0 + 1, l, rfl, by simp, by omega, by omega, rfl, ⟨HE.out.symm⟩, ⟨rfl⟩, HR1, HB1, HW1, hg1, hb1⟩
    case round =>
      obtain ⟨i, j, rows, rfl, rfl, hij, hjl, hrl, ht, hd, HRr, HBr, HWr, hgr, hbr⟩ := hrel
      by_cases hlt : j < l.length
      · have hlt0 : decide ((j : Int) < (l.length : Int)) = true := decide_eq_true (by omega)
        have hrj : rd_T25 rows (j : Int) = l[j] := by
          have h1 : (rows.drop j)[0]? = (l.drop j)[0]? := by rw [hd.out]
          rw [List.getElem?_drop, List.getElem?_drop] at h1
          simp only [Nat.add_zero] at h1
          simp [rd_T25, List.getD_eq_getElem?_getD, h1, hlt]
        obtain ⟨ad, e, hx0, hx1, hx2⟩ := at_T25 (Kd.R_reads' HRr.out).2.2 (j : Int) (by omega) (by omega)
        cases e
        obtain ⟨ad, e, hy0, hy1, hy2⟩ := at_T25 (Kd.R_reads' HRr.out).2.2 (i : Int) (by omega) (by omega)
        cases e
        rw [hrj] at hx0 hx1 hx2
        simp only [add_plain, Int.toNat_natCast] at hx0 hx1 hx2 hy0 hy1 hy2
        have HY0 := Aside0.mk hy0
        have HY1 := Aside0.mk hy1
        have HY2 := Aside0.mk hy2
        clear hy0 hy1 hy2 hrj
        obtain ⟨x, hx⟩ : ∃ x, l[j] = x := ⟨_, rfl⟩
        rw [hx] at hx0 hx1 hx2
        have HX := Aside0.mk hx
        clear hx
        cases hq0 : sameN x.f0 nm with
        | true =>
          have hq := Aside0.mk hq0
          clear hq0
          go_wp2_with (first | ((with_reducible refine gate_dst (N := 7) rfl ?_); refine box_event ?hg (N := 7) ?hd (cs := #[.string (⟨#[]⟩ : ByteArray), .int .i64 0, .int .i64 0]) (t := 25) ?hr ?_; (case hd => rfl); (case hg => rfl); (case hr => first | (go_simp; done) | (go_simp; rfl)); intro gb hgb w13 hbox hb; have hcz0 : w13.cell? ⟨gb, 0, none⟩ = some (.string (⟨#[]⟩ : ByteArray)) := (blk_cell hbox 0).trans rfl; have hcz1 : w13.cell? ⟨gb, 1, none⟩ = some (.int .i64 0) := (blk_cell hbox 1).trans rfl; have hcz2 : w13.cell? ⟨gb, 2, none⟩ = some (.int .i64 0) := (blk_cell hbox 2).trans rfl; have hfz0 := blk_frozen hbox 0; have hfz1 := blk_frozen hbox 1; have hfz2 := blk_frozen hbox 2; have HBX := Aside0.mk hbox; have HBb := Aside0.mk hb; have HGB := Aside0.mk hgb; clear hbox hb hgb) | ((with_reducible refine gate_tmp (t := 26) rfl ?_); refine goesF_ (some 28) rfl rfl Try.func31 (by kernel_rfl) rfl (args := #[.agg #[.string x.f0, .int .i64 x.f1, .int .i64 x.f2], .pointer (some ⟨B, 0, none⟩)]) rfl rfl (by (try simp only [List.map_toArray, List.map_cons, List.map_nil]); first | done | rfl) ?_; have hW := World.below_box3 HBb.out (x := .string x.f0) (y := .int .i64 x.f1) (z := .int .i64 x.f2) HGB.out; have hX := box3_store w13 gb _ _ _ (.string x.f0) (.int .i64 x.f1) (.int .i64 x.f2) HBX.out; generalize ((w13.setCell ⟨gb, 0, none⟩ (.string x.f0)).setCell ⟨gb, 1, none⟩ (.int .i64 x.f1)).setCell ⟨gb, 2, none⟩ (.int .i64 x.f2) = w14 at hW hX ⊢; clear hcz0 hcz1 hcz2 hfz0 hfz1 hfz2 HBX HBb HGB hx0 hx1 hx2; have hcall := drop1_calls B nm x w14 (boxed_below HBr.out hW); rw [hq.out] at hcall; refine hcall.mono ?_; rintro e w15 ⟨rfl, hb15⟩; refine ⟨_, rfl, ?_⟩; have hbx := blk_below hX hb15; have HBx := Aside0.mk hbx; have hv0 : w15.cell? ⟨gb, 0, none⟩ = some (.string x.f0) := (blk_cell hbx 0).trans rfl; have hv1 : w15.cell? ⟨gb, 1, none⟩ = some (.int .i64 x.f1) := (blk_cell hbx 1).trans rfl; have hv2 : w15.cell? ⟨gb, 2, none⟩ = some (.int .i64 x.f2) := (blk_cell hbx 2).trans rfl; have HW15 := Aside0.mk (hW.trans (hb15.mono hW.size)); clear hb15 hW hX hbx hcall))
          go_roundw
          case rel =>
            refine ⟨i, j + 1, rows, rfl, by simp, by omega, by omega, hrl, ⟨?_⟩, ⟨?_⟩, ⟨Kd.R_below HRr.out HW15.out⟩, ⟨boxed_below HBr.out HW15.out⟩, ⟨HWr.out.trans (HW15.out.mono hbr)⟩, Nat.lt_of_lt_of_le hgr HW15.out.size, Nat.le_trans hbr HW15.out.size⟩
            · rw [ht.out, List.take_add_one, List.getElem?_eq_getElem hlt, List.filter_append, HX.out]
              simp [hq.out]
            · have := congrArg (List.drop 1) hd.out
              rwa [List.drop_drop, List.drop_drop] at this
          case measure => show l.length - ((j : Int) + 1).toNat < l.length - (j : Int).toNat; omega
        | false =>
          have hq := Aside0.mk hq0
          clear hq0
          go_wp2_with (first | ((with_reducible refine gate_dst (N := 7) rfl ?_); refine box_event ?hg (N := 7) ?hd (cs := #[.string (⟨#[]⟩ : ByteArray), .int .i64 0, .int .i64 0]) (t := 25) ?hr ?_; (case hd => rfl); (case hg => rfl); (case hr => first | (go_simp; done) | (go_simp; rfl)); intro gb hgb w13 hbox hb; have hcz0 : w13.cell? ⟨gb, 0, none⟩ = some (.string (⟨#[]⟩ : ByteArray)) := (blk_cell hbox 0).trans rfl; have hcz1 : w13.cell? ⟨gb, 1, none⟩ = some (.int .i64 0) := (blk_cell hbox 1).trans rfl; have hcz2 : w13.cell? ⟨gb, 2, none⟩ = some (.int .i64 0) := (blk_cell hbox 2).trans rfl; have hfz0 := blk_frozen hbox 0; have hfz1 := blk_frozen hbox 1; have hfz2 := blk_frozen hbox 2; have HBX := Aside0.mk hbox; have HBb := Aside0.mk hb; have HGB := Aside0.mk hgb; clear hbox hb hgb) | ((with_reducible refine gate_tmp (t := 26) rfl ?_); refine goesF_ (some 28) rfl rfl Try.func31 (by kernel_rfl) rfl (args := #[.agg #[.string x.f0, .int .i64 x.f1, .int .i64 x.f2], .pointer (some ⟨B, 0, none⟩)]) rfl rfl (by (try simp only [List.map_toArray, List.map_cons, List.map_nil]); first | done | rfl) ?_; have hW := World.below_box3 HBb.out (x := .string x.f0) (y := .int .i64 x.f1) (z := .int .i64 x.f2) HGB.out; have hX := box3_store w13 gb _ _ _ (.string x.f0) (.int .i64 x.f1) (.int .i64 x.f2) HBX.out; generalize ((w13.setCell ⟨gb, 0, none⟩ (.string x.f0)).setCell ⟨gb, 1, none⟩ (.int .i64 x.f1)).setCell ⟨gb, 2, none⟩ (.int .i64 x.f2) = w14 at hW hX ⊢; clear hcz0 hcz1 hcz2 hfz0 hfz1 hfz2 HBX HBb HGB hx0 hx1 hx2; have hcall := drop1_calls B nm x w14 (boxed_below HBr.out hW); rw [hq.out] at hcall; refine hcall.mono ?_; rintro e w15 ⟨rfl, hb15⟩; refine ⟨_, rfl, ?_⟩; have hbx := blk_below hX hb15; have HBx := Aside0.mk hbx; have hv0 : w15.cell? ⟨gb, 0, none⟩ = some (.string x.f0) := (blk_cell hbx 0).trans rfl; have hv1 : w15.cell? ⟨gb, 1, none⟩ = some (.int .i64 x.f1) := (blk_cell hbx 1).trans rfl; have hv2 : w15.cell? ⟨gb, 2, none⟩ = some (.int .i64 x.f2) := (blk_cell hbx 2).trans rfl; have HW15 := Aside0.mk (hW.trans (hb15.mono hW.size)); clear hb15 hW hX hbx hcall) | ((with_reducible refine gate_ (.store 25 (.tmp 33) (.tmp 32)) rfl ?_); refine Kd.R_store k25 (w0 := w) base rfl rfl 25 (.tmp 33) (.tmp 32) rfl 25 (g := g) (n := l.length) (cap := c) (o' := i * 3) (i : Int) 0 rows x (.agg #[.string x.f0, .int .i64 x.f1, .int .i64 x.f2]) [.string x.f0, .int .i64 x.f1, .int .i64 x.f2] [.string (rd_T25 rows (i : Int)).f0, .int .i64 (rd_T25 rows (i : Int)).f1, .int .i64 (rd_T25 rows (i : Int)).f2] (fun k => k = g) (fun _ => False) rfl rfl rfl rfl (by kernel_rfl) (by intro q hq; simp at hq; rcases hq with rfl | rfl | rfl <;> rfl) (Kd.R_below HRr.out HW15.out) (by omega) (by omega) rfl ?hcc (Nat.le_refl 3) (k25_mkM _ _ _ _) (fun _ h => h.elim) (HWr.out.trans (HW15.out.mono hbr)) ?_; (case hcc => exact cc3 (o := i * 3) ((HW15.out.cell (World.block_lt_of_cell? _ _ HY0.out)).trans HY0.out) ((HW15.out.cell (World.block_lt_of_cell? _ _ HY1.out)).trans HY1.out) ((HW15.out.cell (World.block_lt_of_cell? _ _ HY2.out)).trans HY2.out)); intro w16 hR16 hB16 hG16; have HR16 := Aside0.mk hR16; have HB16 := Aside0.mk hB16; have HG16 := Aside0.mk hG16; clear hR16 hB16 hG16 hv0 hv1 hv2))
          have hset : rows.set i x = rows.take i ++ x :: rows.drop (i + 1) := List.set_eq_take_append_cons_drop.trans (if_pos (by omega))
          refine ⟨⟨i + 1, j + 1, rows.set i x, by simp, by simp, by omega, by omega, by simp [hrl], ⟨?_⟩, ⟨?_⟩, HR16, ⟨(boxed_below HBr.out HW15.out).kept HG16.out (fun e => hgB (by injection e with e; exact e.symm))⟩, HB16, Nat.lt_of_lt_of_le hgr (Nat.le_trans HW15.out.size HG16.out.size), Nat.le_trans hbr (Nat.le_trans HW15.out.size HG16.out.size)⟩, ?_⟩
          · rw [hset, List.take_append, List.length_take, List.take_take, List.take_add_one (l := l), List.getElem?_eq_getElem hlt, List.filter_append, HX.out]
            rw [show min (i + 1) i = i by omega, ht.out, show i + 1 - min i rows.length = 1 by omega]
            simp [hq.out]
          · rw [List.drop_set, if_pos (by omega)]
            have := congrArg (List.drop 1) hd.out
            rwa [List.drop_drop, List.drop_drop] at this
          · show l.length - ((j : Int) + 1).toNat < l.length - (j : Int).toNat
            omega
      · have hlt0 : decide ((j : Int) < (l.length : Int)) = false := decide_eq_false (by omega)
        have hlo : ∀ W : World, (Instr.slice 22 (.slice (some ⟨g, 0, none⟩) l.length c) (some (.int .i64 (i : Int))) none none).run Try.prog W = .ok (.slice (some ⟨g, i * 3, none⟩) (l.length - i) (c - i)) W := by
          intro W
          obtain ⟨i0, hi, _, hz1, _⟩ := info_parts info25
          have h := cut_from (P := Try.prog) 22 25 .i64 Try.underlying22 hi 3 hz1 (some ⟨g, 0, none⟩) l.length c (i : Int) (by omega) (by omega) W
          rw [Int.toNat_natCast, if_neg (by omega)] at h
          rw [h]
          simp [add_plain]
        have hhi : ∀ W : World, (Instr.slice 22 (.slice (some ⟨g, 0, none⟩) l.length c) none (some (.int .i64 (i : Int))) none).run Try.prog W = .ok (.slice (some ⟨g, 0, none⟩) i c) W := by
          intro W
          obtain ⟨i0, hi, _, hz1, _⟩ := info_parts info25
          have h := cut_to (P := Try.prog) 22 25 .i64 Try.underlying22 hi (some ⟨g, 0, none⟩) l.length c (i : Int) (by omega) (by omega) (by omega) W
          rw [Int.toNat_natCast] at h
          exact h
        obtain ⟨zs, hzl, hclr⟩ : ∃ zs : List Value, zs.length = (l.length - i) * 3 ∧ (Builtin.clear_ #[22] 0 #[.slice (some ⟨g, i * 3, none⟩) (l.length - i) (c - i)]).run Try.prog wr = .ok (.tuple #[]) (wr.setCells g (i * 3) zs) := by
          obtain ⟨_, inner, hown, _⟩ := HRr.out
          rcases hown.2 with ⟨hv, _⟩ | ⟨g', cap', cur, hv, hb, hh, hnc, hcm, hcs, htake⟩
          · cases hv
          injection hv with h1 _ h2
          injection h1 with h1
          injection h1 with h1
          subst h1 h2
          have hcs2 : cur.size = c * 3 := hcs
          exact clear_run wr 0 g (i * 3) (l.length - i) (c - i) hh (by omega) (by omega)
        obtain ⟨hR2, hG2⟩ := R_cut HRr.out (show i ≤ l.length by omega) zs (by omega)
        have HR2 := Aside0.mk hR2
        have HG2 := Aside0.mk hG2
        clear hR2 hG2
        go_wp2
        go_ret
        obtain rfl : j = l.length := by omega
        have e3 : rows.take i = dropL l nm := by
          rw [ht.out, List.take_of_length_le (Nat.le_refl _)]
          rfl
        rw [e3] at HR2
        refine ⟨_, rfl, Kd.R_mono HR2.out (fun _ _ => trivial), HWr.out.trans ?_⟩
        have hg := HG2.out
        exact ⟨hg.os, hg.tape, hg.output, hg.size, fun k hk => by
          rcases Nat.lt_or_ge k wr.heap.size with h | h
          · exact hg.block k h (fun e => by injection e with e; omega)
          · exact setCells_far _ _ k (by omega)⟩
end Go.Proofs.Ythcoiabgemclbaa.PD
/- slices.SortFunc at spans, by span.order. -/
namespace Go.Proofs.Ythcoiabgemclbaa.PD
open Go.RowKit Go.Shelf Go.Sort Go.Proofs.YthcoiabgemclbaaW.PrintWords Go.Proofs.YthcoiabgemclbaaW.PrintLast Go.Proofs.YthcoiabgemclbaaW.PrintMore
set_option linter.unusedVariables false
set_option linter.unusedSimpArgs false
instance inhS25 : Inhabited S25 := ⟨z25⟩
def enc3 (x : S25) : List Value := [.string x.f0, .int .i64 x.f1, .int .i64 x.f2]
theorem bless_irrefl (a : List UInt8) : Op.bytesLess a a = false := by rw [bytesLess_eq]; exact decide_eq_false (List.lt_irrefl a)
theorem bless_trans {a b c : List UInt8} (h1 : Op.bytesLess a b = true) (h2 : Op.bytesLess b c = true) : Op.bytesLess a c = true := by
  rw [bytesLess_eq] at *
  simp only [decide_eq_true_eq] at *
  exact List.lt_trans h1 h2
theorem bless_total {a b : List UInt8} (h1 : Op.bytesLess a b = false) (h2 : Op.bytesLess b a = false) : a = b := by
  rw [bytesLess_eq] at *
  simp only [decide_eq_false_iff_not] at *
  rcases Std.lt_trichotomy a b with h | h | h
  · exact absurd h h1
  · exact h
  · exact absurd h h2
theorem bless_asymm {a b : List UInt8} (h1 : Op.bytesLess a b = true) : Op.bytesLess b a = false := by
  cases h : Op.bytesLess b a with
  | false => rfl
  | true => have := bless_trans h1 h; rw [bless_irrefl] at this; cases this
theorem toList_inj {a b : ByteArray} (h : a.toList = b.toList) : a = b := by
  rw [Lib.toList_data, Lib.toList_data] at h
  cases a; cases b
  simp only at h
  congr 1
  exact Array.toList_inj.1 h
theorem cmpS_lt (a b : S25) : decide (cmpS a b < 0) = ltS a b := by
  unfold cmpS ltS
  by_cases h1 : a.f1 < b.f1
  · simp [h1]
  · by_cases h2 : a.f1 > b.f1
    · have h3 : ¬ a.f1 = b.f1 := by omega
      simp [h1, h2, h3]
    · have h3 : a.f1 = b.f1 := by omega
      simp only [h1, h2, h3, if_false, decide_true, Bool.true_and]
      cases h4 : Op.bytesLess a.f0.toList b.f0.toList with
      | true => simp
      | false => cases h5 : Op.bytesLess b.f0.toList a.f0.toList <;> simp
theorem ltOf_cmp : ltOf cmpS = ltS := by
  funext a b
  exact cmpS_lt a b
theorem ltS_irrefl (a : S25) : ltS a a = false := by unfold ltS; simp [bless_irrefl]
theorem ltS_trans {a b c : S25} (h1 : ltS a b = true) (h2 : ltS b c = true) : ltS a c = true := by
  unfold ltS at *
  simp only [Bool.or_eq_true, Bool.and_eq_true, decide_eq_true_eq] at *
  rcases h1 with h1 | ⟨h1, h1'⟩ <;> rcases h2 with h2 | ⟨h2, h2'⟩
  · left; omega
  · left; omega
  · left; omega
  · right; exact ⟨by omega, bless_trans h1' h2'⟩
theorem ltS_asymm {a b : S25} (h1 : ltS a b = true) : ltS b a = false := by
  cases h : ltS b a with
  | false => rfl
  | true => have := ltS_trans h1 h; rw [ltS_irrefl] at this; cases this
/-- Neither comes first: they begin at once and have one name. -/
theorem ltS_total {a b : S25} (h1 : ltS a b = false) (h2 : ltS b a = false) : a.f1 = b.f1 ∧ a.f0 = b.f0 := by
  unfold ltS at *
  simp only [Bool.or_eq_false_iff, Bool.and_eq_false_iff, decide_eq_false_iff_not] at *
  have h3 : a.f1 = b.f1 := by omega
  refine ⟨h3, ?_⟩
  rcases h1.2 with h | h
  · exact absurd h3 h
  rcases h2.2 with h' | h'
  · exact absurd h3.symm h'
  exact toList_inj (bless_total h h')
theorem ltS_swo : SWO ltS where
  irrefl := ltS_irrefl
  trans _ _ _ := ltS_trans
  ntrans x y z h1 h2 := by
    cases h : ltS x z with
    | false => rfl
    | true =>
      exfalso
      cases h3 : ltS y x with
      | true => have := ltS_trans h3 h; rw [h2] at this; cases this
      | false =>
        obtain ⟨e1, e2⟩ := ltS_total h1 h3
        have : ltS x z = ltS y z := by unfold ltS; rw [e1, e2]
        rw [this, h2] at h
        cases h
theorem cmpLays (blk off size : Nat) (w : World) : CmpLays Try.prog 24 #[] enc3 3 cmpS blk off size w :=
  fun _ _ _ _ x y => order_grows 3 x.f0 x.f1 x.f2 y.f0 y.f1 y.f2 _ _ (order_val x y)
/-- What a row of spans holds at place t. -/
theorem inner_at {w : World} {base : Nat} {ok : Nat → Prop} {xs : List S25} {inner : List Value} (h : Reps (k25.M w base ok) 3 xs inner) (t : Nat) (ht : t < xs.length * 3) : inner[t]? = some ((enc3 xs.toArray[t / 3]!)[t % 3]!) := by
  have hj : t / 3 < xs.length := by omega
  have h1 := h.2 (t / 3) xs[t / 3] (by rw [List.getElem?_eq_getElem hj])
  have h2 := k25_openM h1
  have h3 : ((inner.drop (t / 3 * 3)).take 3)[t % 3]? = inner[t]? := by
    rw [List.getElem?_take_of_lt (by omega), List.getElem?_drop, show t / 3 * 3 + t % 3 = t by omega]
  rw [← h3, h2]
  have h4 : xs.toArray[t / 3]! = xs[t / 3] := by simp [hj]
  rw [h4]
  have : t % 3 = 0 ∨ t % 3 = 1 ∨ t % 3 = 2 := by omega
  rcases this with h | h | h <;> simp [h, enc3]
theorem reps_mk {w : World} {base : Nat} {ok : Nat → Prop} {xs : List S25} {inner : List Value} (hl : inner.length = xs.length * 3) (h : ∀ t, t < xs.length * 3 → inner[t]? = some ((enc3 xs.toArray[t / 3]!)[t % 3]!)) : Reps (k25.M w base ok) 3 xs inner := by
  refine ⟨hl, fun j p hp => ?_⟩
  have hj : j < xs.length := by
    rcases Nat.lt_or_ge j xs.length with h | h
    · exact h
    · rw [List.getElem?_eq_none h] at hp; cases hp
  rw [List.getElem?_eq_getElem hj] at hp
  obtain rfl := Option.some.inj hp
  have e : (inner.drop (j * 3)).take 3 = enc3 xs[j] := by
    apply List.ext_getElem?
    intro i
    by_cases hi : i < 3
    · rw [List.getElem?_take_of_lt hi, List.getElem?_drop, h (j * 3 + i) (by omega), show (j * 3 + i) / 3 = j by omega, show (j * 3 + i) % 3 = i by omega]
      have h4 : xs.toArray[j]! = xs[j] := by simp [hj]
      rw [h4]
      have : i = 0 ∨ i = 1 ∨ i = 2 := by omega
      rcases this with h | h | h <;> simp [h, enc3]
    · rw [List.getElem?_take_eq_none (by omega), List.getElem?_eq_none (by simp [enc3]; omega)]
  rw [e]
  exact k25_mkM _ _ _ _
theorem flat_at (d : Array S25) (t : Nat) (ht : t < d.size * 3) : (flatK enc3 3 d)[t]! = (enc3 d[t / 3]!)[t % 3]! := by
  simp [flatK, ht]
set_option maxRecDepth 100000 in
set_option maxHeartbeats 1600000 in
/-- The sort: the same slice holds the one row that is sorted. -/
theorem sortSp_calls (base : Nat) (ok : Nat → Prop) (v : Value) (l l' : List S25) (w : World) (hr : Kd.R k25 25 w base ok v l) (h0 : 0 < l.length) (hbig : l.length < 4611686018427387904) (hp : l'.Perm l) (hs : l'.Pairwise (fun a b => ltS a b = true)) :
    Calls Try.prog 23 #[v, .func (.func 24) #[] #[]] w fun e w' => e = .returned (.tuple #[]) ∧ Kd.R k25 25 w' base ok v l' ∧ w.grownBy w' v.ownBlock := by
  obtain ⟨hok, inner, hown, hrep⟩ := hr
  rcases hown.2 with ⟨hv, hz⟩ | ⟨g, cap, cur, hv, hb, hh, hnc, hcm, hcs, htake⟩
  · omega
  subst hv
  have hcs2 : cur.size = cap * 3 := hcs
  have htk : cur.toList.take (l.length * 3) = inner := htake
  have hH : HoldsK enc3 3 w g 0 l.toArray := by
    intro j hj
    have hj' : j < l.length * 3 := by simpa [flatK] using hj
    refine ⟨?_, by simp [World.frozen?, hh]⟩
    have h1 := inner_at hrep j hj'
    rw [← htk, List.getElem?_take_of_lt hj', Array.getElem?_toList] at h1
    rw [blk_cell hh, Nat.zero_add, h1, flat_at _ _ (by simpa using hj')]
    rfl
  have eg : ∀ args w, (callFunc 24 args).run Try.prog w = .ok (.enter 24 args) w := enters_of Try.func24 (by kernel_rfl) rfl
  have hcon := AnyQ.slices_SortFunc Try.sortSp 3 Try.isAgg25 Try.sizeOf25 enc3 (fun _ => rfl) (fun x v hv => by simp [enc3] at hv; rcases hv with rfl | rfl | rfl <;> rfl) cmpS (by rw [ltOf_cmp]; exact ltS_swo) 24 #[] g 0 cap l.toArray w eg (cmpLays g 0 l.toArray.size w) hH (blk_lt hh) (by simpa using hbig)
  change Calls Try.prog 23 _ _ _ at hcon
  simp only [List.size_toArray] at hcon
  refine hcon.mono ?_
  rintro e w' ⟨rfl, d', n, os, ⟨hsz, _, hperm⟩, hso, rfl⟩
  have hsz' : d'.size = l.length := by simpa using hsz
  have e1 : d'.extract 0 l.length = d' := by rw [← hsz']; exact Array.extract_size
  rw [e1, show l.toArray.extract 0 l.length = l.toArray by rw [show l.length = l.toArray.size by simp]; exact Array.extract_size] at hperm
  have hd : d'.toList = l' := by
    refine List.Perm.eq_of_pairwise (le := fun x y => ltS y x = false) ?_ ?_ (hs.imp fun h => ltS_asymm h) (hperm.trans (by simpa using hp.symm))
    · intro a b ha hb' h1 h2
      have ha' : a ∈ l' := hp.symm.subset (by simpa using hperm.subset ha)
      obtain ⟨e1, e2⟩ := ltS_total h2 h1
      obtain ⟨i, hi, rfl⟩ := List.getElem_of_mem ha'
      obtain ⟨j, hj, rfl⟩ := List.getElem_of_mem hb'
      rw [List.pairwise_iff_getElem] at hs
      rcases Nat.lt_trichotomy i j with h | h | h
      · have := hs i j hi hj h; rw [h2] at this; cases this
      · subst h; rfl
      · have := hs j i hj hi h; rw [h1] at this; cases this
    · rw [List.pairwise_iff_getElem]
      intro i j hi hj hij
      have hi' : i < d'.size := by simpa using hi
      have hj' : j < d'.size := by simpa using hj
      have := hso i j (Nat.zero_le _) hij (by omega)
      rw [ltOf_cmp, getElem!_pos d' j hj', getElem!_pos d' i hi'] at this
      simpa using this
  obtain rfl : d' = l'.toArray := by rw [← hd]
  have hll : l'.length = l.length := hp.length_eq
  have hhp : (sortWorldK enc3 3 w g 0 n l'.toArray os).heap[g]? = some (.cells (putCells id 0 (flatK enc3 3 l'.toArray) cur) 25 (0, 0)) := by
    unfold sortWorldK putRowK
    rw [heap_grow_old _ _ (by simpa [putRow, mapBlock, Sort.ahead] using blk_lt hh)]
    simp [putRow, mapBlock, Sort.ahead, Array.getElem?_modify, hh, onCells]
  have hgr : w.grownBy (sortWorldK enc3 3 w g 0 n l'.toArray os) (some g) := by
    unfold sortWorldK putRowK
    refine ⟨rfl, rfl, rfl, by simp, fun k hk hne => ?_⟩
    rw [heap_grow_old _ _ (by simpa [putRow, mapBlock, Sort.ahead] using hk)]
    have : g ≠ k := fun e => hne (by rw [e])
    simp [putRow, mapBlock, Sort.ahead, Array.getElem?_modify, this]
  have hfs : (flatK enc3 3 l'.toArray).size = l.length * 3 := by simp [flatK, hll]
  refine ⟨rfl, ⟨hok, (flatK enc3 3 l'.toArray).toList, ?_, ?_⟩, hgr⟩
  · refine ⟨by rw [Array.length_toList, hfs, hll]; rfl, .inr ⟨g, cap, _, by rw [hll], hb, hhp, by omega, hcm, by simp [putCells]; exact hcs, ?_⟩⟩
    show (putCells id 0 (flatK enc3 3 l'.toArray) cur).toList.take (l'.length * 3) = _
    apply List.ext_getElem?
    intro j
    by_cases hj : j < l'.length * 3
    · rw [List.getElem?_take_of_lt hj, Array.getElem?_toList, Array.getElem?_toList]
      have h1 : j < (flatK enc3 3 l'.toArray).size := by omega
      have h2 : j < cur.size := by rw [hcs2]; omega
      rw [Array.getElem?_eq_getElem h1, ← getElem!_pos _ j h1]
      simp [putCells, h2, hj]
    · rw [List.getElem?_take_eq_none (by omega), List.getElem?_eq_none (by rw [Array.length_toList]; omega)]
  · refine reps_mk (by rw [Array.length_toList, hfs, hll]) (fun t ht => ?_)
    have h1 : t < (flatK enc3 3 l'.toArray).size := by omega
    rw [Array.getElem?_toList, Array.getElem?_eq_getElem h1, ← getElem!_pos _ t h1, flat_at _ _ (by simpa using ht)]
end Go.Proofs.Ythcoiabgemclbaa.PD
/- A region that draws its order, reads first, and ends in operations that follow one another: the reads by the cheap step. -/
namespace Go.Proofs.Ythcoiabgemclbaa.PD
open Go
section
variable {P : Program} {ops : Array Oper} {w : World}
theorem wpStill_of_quiet {Q : Act → Prop} : ∀ (l : List Oper) (a : Act), wpQuiet P ops (fun w' => w' = w) Q l a → wpStill P ops w Q l a
  | [], _, h => h
  | o :: rest, a, h => by
    unfold wpQuiet at h
    unfold wpStill
    split at h
    · rename_i hw
      rw [if_pos hw]
      obtain ⟨v, h1, h2⟩ := h
      have h3 := h1 w rfl
      unfold Oper.quietAt at h3
      unfold Oper.still
      generalize (execOp a.eval o).run P w = r at h3 ⊢
      cases r with
      | ok n w' =>
        cases n <;> simp only [Oper.quietUpon] at h3
        case value u => exact ⟨h3.1, by rw [h3.2]; exact wpStill_of_quiet rest _ h2⟩
        case skip => exact ⟨h3.1, by rw [h3.2] at h2; exact wpStill_of_quiet rest _ h2⟩
        case enter f args => exact ⟨h3.1, v, h3.2, wpStill_of_quiet rest _ h2⟩
      | halt x w' => simp only [Oper.quietUpon] at h3
    · rename_i hw
      rw [if_neg hw]
      exact wpStill_of_quiet rest _ h
theorem wp_region_qtail {id : Nat} {Q : Exit → Act → World → Prop} {a : Act} {l : List Oper} (n : Nat) (hm : P.follows .mixedOrders = true) (hB : Region.lexTailB .any l.toArray n = true)
    (h : wpQuiet P l.toArray (fun w' => w' = w.drew) (fun a' => wpList P l.toArray Q (l.drop n) a' w.drew) (l.take n) a) : (Code.region id l.toArray true).wp P Q a w :=
  wp_region_still_tail n hm hB (wpStill_of_quiet _ _ h)
end
end Go.Proofs.Ythcoiabgemclbaa.PD
/- span.Fit: the names that have come are kept in a map. -/
namespace Go.Proofs.Ythcoiabgemclbaa.PD
open Go.RowKit Go.Maps Go.WideMaps Go.Proofs.YthcoiabgemclbaaW.PrintWords Go.Proofs.YthcoiabgemclbaaW.PrintLast Go.Proofs.YthcoiabgemclbaaW.PrintMore
attribute [local go_sem] isSome_setCell max2_int min2_int max_two min_two
set_option linter.unusedVariables false
set_option linter.unusedSimpArgs false
theorem law9 : Keyed Try.prog 9 := string_keyed Try.underlying9
theorem zero3 (w : World) : (zeroValue 3).run Try.prog w = .ok (.int .i64 0) w := by kernel_rfl
def keyS (x : S25) : Lit := .string x.f0.data.toList
/-- The map of the names of l, each at 1. -/
def seenD (l : List S25) : DataW Nat := setOf (.lit (.int .i64 1)) (l.map keyS)
theorem seenD_snoc (l : List S25) (x : S25) : seenD (l ++ [x]) = (seenD l).put (keyS x) (.lit (.int .i64 1)) := by
  unfold seenD
  rw [List.map_append]
  exact setOf_snoc _ _ _
abbrev MapAt (w : World) (B n : Nat) (l : List S25) : Prop := w.ownsMap Try.prog 9 (plainElem (H := Nat) Try.prog 3) B n (seenD l)
theorem hgB {w wr : World} (h : Below w.heap.size w wr) : w.heap.size ≤ wr.heap.size := h.size
theorem below_map {w wr w5 w6 : World} (h : Below w.heap.size w wr) (h1 : w.heap.size ≤ wr.heap.size) (h5 : Below wr.heap.size wr w5) (h6 : w5.grownBy w6 (some w.heap.size)) : Below w.heap.size w w6 :=
  (h.trans (h5.mono h1)).grown h6 (Nat.le_trans h1 h5.size) (fun k hk => by cases hk; exact Nat.le_refl _)
theorem keyLit (s : List UInt8) : WideAt.IsKeyLit (.string s) := by first | trivial | decide | simp [WideAt.IsKeyLit]
theorem keyLitS (x : S25) : WideAt.IsKeyLit (keyS x) := keyLit _
theorem put_none (a : Act) (v : Value) : a.put none v = a := rfl
theorem sameKey_s (a b : S25) : (keyS a).sameKey (keyS b) = sameN a.f0 b.f0 := by
  unfold keyS sameN
  rw [Lib.toList_data, Lib.toList_data]
  rfl
theorem seen_fold (x : S25) : ∀ (l : List S25) (m : DataW Nat), IsMap m → ((l.map keyS).foldl (fun m k => m.put k (.lit (.int .i64 1))) m).atKey (keyS x) (.lit (.int .i64 0)) = if l.any (fun y => sameN y.f0 x.f0) then .lit (.int .i64 1) else m.atKey (keyS x) (.lit (.int .i64 0))
  | [], m, _ => rfl
  | y :: l, m, hm => by
    rw [List.map_cons, List.foldl_cons, seen_fold x l _ (hm.put _ _), List.any_cons]
    cases h2 : l.any (fun y => sameN y.f0 x.f0) with
    | true => simp
    | false =>
      by_cases h : keyS y = keyS x
      · have hs : sameN y.f0 x.f0 = true := by rw [← sameKey_s, h]; unfold keyS; simp [Lit.sameKey]
        rw [h, atKey_put_same hm (keyLitS x), hs]
        simp
      · have hs : sameN y.f0 x.f0 = false := by rw [← sameKey_s]; exact sameKey_ne h
        rw [atKey_put_other (Ne.symm h), hs]
        simp
theorem seen_at (x : S25) (l : List S25) : (seenD l).atKey (keyS x) (.lit (.int .i64 0)) = .lit (.int .i64 (if l.any (fun y => sameN y.f0 x.f0) then 1 else 0)) := by
  unfold seenD setOf
  rw [seen_fold x l _ isMap_empty]
  split <;> rfl
theorem seen_one {l : List S25} {x : S25} {c : Int} (h : l.any (fun y => sameN y.f0 x.f0) = true) (hc : (seenD l).atKey (keyS x) (.lit (.int .i64 0)) = .lit (.int .i64 c)) : c = 1 := by
  rw [seen_at, if_pos h] at hc
  simp at hc
  omega
theorem seen_no {l : List S25} {x : S25} {c : Int} (h : ¬ l.any (fun y => sameN y.f0 x.f0) = true) (hc : (seenD l).atKey (keyS x) (.lit (.int .i64 0)) = .lit (.int .i64 c)) : c = 0 := by
  rw [seen_at, if_neg h] at hc
  simp at hc
  omega
theorem look_at {W : World} {B n : Nat} {D : DataW Nat} {x : S25} {m : Int} (hs : x.f0.size ≤ maxLen) (hD : IsMap D) (hM : W.ownsMap Try.prog 9 (plainElem (H := Nat) Try.prog 3) B n (D.put (keyS x) (.lit (.int .i64 m)))) :
    (Instr.lookup 47 (.map (some B)) (.string x.f0) false).run Try.prog W = .ok (.int .i64 m) W := by
  obtain ⟨c, hrun, hat, _⟩ := hM.lookup_int law9 Try.underlying47 Try.underlying3 (zero3 _) (keyOf_string_mk Try.underlying9 hs)
  have h2 : (D.put (keyS x) (.lit (.int .i64 m))).atKey (keyS x) (.lit (.int .i64 0)) = .lit (.int .i64 c) := hat
  rw [atKey_put_same hD (keyLitS x)] at h2
  have h3 : m = c := by simpa using h2
  rw [hrun, h3]
theorem seen_isMap (l : List S25) : IsMap (seenD l) := (tidy_setOf _ _ (fun k hk => by obtain ⟨z, _, rfl⟩ := List.mem_map.1 hk; exact keyLit _)).isMap
theorem look_two {W : World} {B n k : Nat} {l : List S25} {x : S25} {c : Int} (hs : x.f0.size ≤ maxLen) (hc : c = 1) (hM : W.ownsMap Try.prog 9 (plainElem (H := Nat) Try.prog 3) B k ((seenD l).put (keyS x) (.lit (.int .i64 (wrap64 (c + 1)))))) :
    (Instr.lookup 47 (.map (some B)) (.string x.f0) false).run Try.prog (W.drewN n) = .ok (.int .i64 2) (W.drewN n) := by
  subst hc
  rw [show wrap64 (1 + 1) = 2 by simp [wrap64]] at hM
  exact look_at hs (seen_isMap l) (hM : (W.drewN n).ownsMap Try.prog 9 (plainElem (H := Nat) Try.prog 3) B k _)
theorem look_one {W : World} {B n k : Nat} {l : List S25} {x : S25} {c : Int} (hs : x.f0.size ≤ maxLen) (hc : c = 0) (hM : W.ownsMap Try.prog 9 (plainElem (H := Nat) Try.prog 3) B k ((seenD l).put (keyS x) (.lit (.int .i64 (wrap64 (c + 1)))))) :
    (Instr.lookup 47 (.map (some B)) (.string x.f0) false).run Try.prog (W.drewN n) = .ok (.int .i64 1) (W.drewN n) := by
  subst hc
  rw [show wrap64 (0 + 1) = 1 by simp [wrap64]] at hM
  exact look_at hs (seen_isMap l) (hM : (W.drewN n).ownsMap Try.prog 9 (plainElem (H := Nat) Try.prog 3) B k _)
theorem look_oned {W : World} {B k : Nat} {l : List S25} {x : S25} {c : Int} (hs : x.f0.size ≤ maxLen) (hc : c = 0) (hM : W.ownsMap Try.prog 9 (plainElem (H := Nat) Try.prog 3) B k ((seenD l).put (keyS x) (.lit (.int .i64 (wrap64 (c + 1)))))) :
    (Instr.lookup 47 (.map (some B)) (.string x.f0) false).run Try.prog W.drew = .ok (.int .i64 1) W.drew := by
  subst hc
  rw [show wrap64 (0 + 1) = 1 by simp [wrap64]] at hM
  exact look_at hs (seen_isMap l) (hM : W.drew.ownsMap Try.prog 9 (plainElem (H := Nat) Try.prog 3) B k _)
theorem fit_of_bad {l : List S25} {i : Nat} (hi : i < l.length) (h : okAt l i = false) : fitB l = false := by
  unfold fitB
  rw [Bool.and_eq_false_iff]
  left
  rw [Bool.eq_false_iff]
  intro h2
  rw [List.all_eq_true] at h2
  rw [h2 i (List.mem_range.2 hi)] at h
  cases h
theorem fit_of_all {l : List S25} (h : ∀ i, i < l.length → okAt l i = true) : fitB l = decide (l.length ≤ 32) := by
  unfold fitB
  rw [List.all_eq_true.2 (fun i hi => h i (List.mem_range.1 hi)), Bool.true_and]
theorem rd_snoc {l : List S25} {i : Nat} {x : S25} (hi : i < l.length) (hx : x = rd_T25 l (i : Int)) : l.take i ++ [x] = l.take (i + 1) := by
  subst hx
  unfold rd_T25
  rw [Int.toNat_natCast, List.getD_eq_getElem?_getD, List.getElem?_eq_getElem hi, List.take_succ_eq_append_getElem hi]
  rfl
theorem rd_mem {l : List S25} {i : Nat} {x : S25} (hi : i < l.length) (hx : x = rd_T25 l (i : Int)) : x ∈ l := by
  subst hx
  unfold rd_T25
  rw [Int.toNat_natCast, List.getD_eq_getElem?_getD, List.getElem?_eq_getElem hi]
  exact List.getElem_mem hi
set_option maxHeartbeats 4000000 in
set_option maxRecDepth 100000 in
theorem span_Fit.calls0 (A0 : Option Addr) (c0 : Nat) (l0 : List S25) (r : Bool) (w : World) (hr0 : Kd.C k25 w A0 l0.length l0) (hc0 : l0.length ≤ c0) (hn : ∀ x ∈ l0, x.f0.size ≤ maxLen) (hl : l0.length < 4398046511104) (h : fitB l0 = r) :
    Calls Try.prog 8 #[.slice A0 l0.length c0] w fun e w' => e = .returned (.bool r) ∧ Below w.heap.size w w' := by
  have hu25 := Try.underlying25
  have HR0 := Aside0.mk hr0
  have HC0 := Aside0.mk hc0
  have HN := Aside0.mk hn
  have HF := Aside0.mk h
  clear hr0 hc0 hn h
  have HB := Aside0.mk (Below.refl w.heap.size w)
  have hmm := @run_makeMap Try.prog
  go_enter Try.func8, Try.ntmps8
  go_wp2
  go_loopw [9] (fun v9 w' => ∃ i : Nat, i ≤ l0.length ∧ v9 = .int .i64 i ∧ Aside0 (∀ j, j < i → okAt l0 j = true) ∧ Aside0 (MapAt w' w.heap.size i (l0.take i)) ∧ Aside0 (Below w.heap.size w w')) (fun v9 _ => l0.length - (intOf v9).toNat)
  case atStart => exact ⟨0, Nat.zero_le _, rfl, ⟨fun j hj => by omega⟩, ⟨World.ownsMap_made _ _ _ _⟩, ⟨(Below.refl _ _).alloc (Nat.le_refl _) _⟩⟩
  case round =>
    obtain ⟨i, hi, rfl, HO, HM, HB⟩ := hrel
    by_cases hlt : i < l0.length
    · have hlb : decide ((i : Int) < (l0.length : Int)) = true := decide_eq_true (by omega)
      obtain ⟨ad, e0, hx0, hx1, hx2⟩ := at_T25 HR0.out (i : Int) (by omega) (by omega)
      subst e0
      have hw0 := hx0
      have hw1 := hx1
      have hw2 := hx2
      replace hx0 := (HB.out.cell (World.block_lt_of_cell? w _ hx0)).trans hx0
      replace hx1 := (HB.out.cell (World.block_lt_of_cell? w _ hx1)).trans hx1
      replace hx2 := (HB.out.cell (World.block_lt_of_cell? w _ hx2)).trans hx2
      obtain ⟨x, hx⟩ : ∃ x, x = rd_T25 l0 (i : Int) := ⟨_, rfl⟩
      rw [← hx] at hx0 hx1 hx2 hw0 hw1 hw2
      simp only [Int.toNat_natCast] at hx0 hx1 hx2 hw0 hw1 hw2
      have HX := Aside0.mk hx
      clear hx
      have p0 : (0 ≤ (i : Int)) = True := eq_true (by omega)
      have q0 : ((i : Int) < (l0.length : Int)) = True := eq_true (by omega)
      have HS := Aside0.mk (HN.out x (rd_mem hlt HX.out))
      have HB5 := Aside0.mk (below_alloc (Below.refl wr.heap.size wr) (.cells #[.string x.f0, .int .i64 x.f1, .int .i64 x.f2] 25))
      have BK5 := Aside0.mk (heap_alloc_new wr (.cells #[.string x.f0, .int .i64 x.f1, .int .i64 x.f2] 25))
      have HM5 := Aside0.mk (HM.out.alloc (.cells #[.string x.f0, .int .i64 x.f1, .int .i64 x.f2] 25))
      go_upto_region 6 with (first | (at_lookup; refine wpList_lookup_own_int _ rfl _ _ 47 rfl 9 3 .i64 law9 Try.underlying47 Try.underlying3 (zero3 _) w.heap.size i _ rfl HM5.out _ _ rfl (keyOf_string_mk Try.underlying9 HS.out) ?_; intro c hat hwc; have HC := Aside0.mk hat; have HWC := Aside0.mk hwc; clear hat hwc) | (at_mapUpdate; refine wpList_mapUpdate_own _ rfl _ _ _ 47 rfl 9 3 law9 Try.underlying47 _ w.heap.size i _ rfl HM5.out (by unfold maxLen; omega) _ _ _ rfl rfl (keyOf_string_mk Try.underlying9 HS.out) _ [] (plainElem_int Try.underlying3 (wrap64_wf _)) ?_; intro w6 hm6 hg6; have HM6 := Aside0.mk hm6; have HG6 := Aside0.mk hg6; clear hm6 hg6))
      have HB6 := Aside0.mk (below_map HB.out (hgB HB.out) HB5.out HG6.out)
      have BK6 := Aside0.mk (blk_grown BK5.out HG6.out (by simp only [ne_eq, Option.some.injEq]; have := HM.out.lt; omega))
      have y0 : w6.cell? ⟨wr.heap.size, 0, none⟩ = some (.string x.f0) := (blk_cell BK6.out 0).trans rfl
      have y1 : w6.cell? ⟨wr.heap.size, 1, none⟩ = some (.int .i64 x.f1) := (blk_cell BK6.out 1).trans rfl
      have y2 : w6.cell? ⟨wr.heap.size, 2, none⟩ = some (.int .i64 x.f2) := (blk_cell BK6.out 2).trans rfl
      rw [put_none]
      go_cut [55] (fun v55 wc => v55 = .bool (!okAt l0 i) ∧ Aside0 (okAt l0 i = true → MapAt wc w.heap.size (i + 1) (l0.take (i + 1))) ∧ Aside0 (Below w.heap.size w wc))
      case first =>
        by_cases hd : (l0.take i).any (fun y => sameN y.f0 x.f0) = true
        · have HOK : Aside0 (okAt l0 i = false) := ⟨by unfold okAt; rw [← HX.out, hd]; rfl⟩
          have hlk := fun n => look_two (n := n) HS.out (seen_one hd HC.out) HM6.out
          go_quiet (fail)
          try go_wp2
          go_meet
          case rel => exact ⟨by rw [HOK.out]; rfl, ⟨fun h => by rw [HOK.out] at h; cases h⟩, ⟨pw_below_drewN HB6.out _⟩⟩
        · have hc0 := seen_no hd HC.out
          have hlk := fun n => look_one (n := n) HS.out hc0 HM6.out
          have hlkd := look_oned HS.out hc0 HM6.out
          have HM7 : Aside0 (MapAt w6 w.heap.size (i + 1) (l0.take (i + 1))) := ⟨by
            have h7 := HM6.out
            rw [hc0, show wrap64 (0 + 1) = 1 by simp [wrap64], ← show keyS x = Lit.string x.f0.data.toList from rfl, ← seenD_snoc, rd_snoc hlt HX.out] at h7
            exact h7⟩
          have HD : Aside0 ((l0.take i).any (fun y => sameN y.f0 x.f0) = false) := ⟨by simpa using hd⟩
          clear hd hc0 HC
          by_cases c1 : x.f0.toList = []
          · have HOK : Aside0 (okAt l0 i = false) := ⟨by unfold okAt; rw [← HX.out, c1]; simp⟩
            have c1b : (x.f0.toList == []) = true := beq_iff_eq.mpr c1
            clear c1
            go_quiet (fail)
            try go_wp2
            go_meet
            case rel => exact ⟨by rw [HOK.out]; rfl, ⟨fun h => by rw [HOK.out] at h; cases h⟩, ⟨pw_below_drewN HB6.out _⟩⟩
          · have c1b : (x.f0.toList == []) = false := beq_eq_false_iff_ne.mpr c1
            by_cases c2 : (x.f0.size : Int) > 24
            · have HOK : Aside0 (okAt l0 i = false) := ⟨by unfold okAt; rw [← HX.out]; have : ¬ x.f0.size ≤ 24 := by omega
                                                           simp [this]⟩
              have c2b : decide ((x.f0.size : Int) > 24) = true := decide_eq_true c2
              clear c1
              go_quiet (fail)
              try go_wp2
              go_meet
              case rel => exact ⟨by rw [HOK.out]; rfl, ⟨fun h => by rw [HOK.out] at h; cases h⟩, ⟨pw_below_drewN HB6.out _⟩⟩
            · have c2b : decide ((x.f0.size : Int) > 24) = false := decide_eq_false c2
              by_cases c3 : x.f2 < x.f1
              · have HOK : Aside0 (okAt l0 i = false) := ⟨by unfold okAt; rw [← HX.out]; have : ¬ x.f1 ≤ x.f2 := by omega
                                                             simp [this]⟩
                have c3b : decide (x.f2 < x.f1) = true := decide_eq_true c3
                clear c1
                go_quiet (fail)
                try go_wp2
                go_meet
                case rel => exact ⟨by rw [HOK.out]; rfl, ⟨fun h => by rw [HOK.out] at h; cases h⟩, ⟨pw_below_drewN HB6.out _⟩⟩
              · have c3b : decide (x.f2 < x.f1) = false := decide_eq_false c3
                by_cases c4 : i = 0
                · have HOK : Aside0 (okAt l0 i = true) := ⟨by unfold okAt; rw [← HX.out, HD.out, decide_eq_true c4, c1b, decide_eq_true (by omega), decide_eq_true (by omega)]; rfl⟩
                  have c4b : decide ((i : Int) > 0) = false := decide_eq_false (by omega)
                  have c4c : decide (0 < i) = false := decide_eq_false (by omega)
                  clear c1 c4
                  go_quiet (fail)
                  try go_wp2
                  go_meet
                  case rel => exact ⟨by rw [HOK.out]; rfl, ⟨fun _ => HM7.out⟩, ⟨pw_below_drewN HB6.out _⟩⟩
                · have c4b : decide ((i : Int) > 0) = true := decide_eq_true (by omega)
                  have c4c : decide (0 < i) = true := decide_eq_true (by omega)
                  obtain ⟨y, hy⟩ : ∃ y, y = rd_T25 l0 ((i : Int) - 1) := ⟨_, rfl⟩
                  have HY := Aside0.mk hy
                  obtain ⟨ad', e0, z0, z1, z2⟩ := at_T25 HR0.out ((i : Int) - 1) (by omega) (by omega)
                  cases e0
                  rw [show ((i : Int) - 1).toNat = i - 1 by omega] at z0 z1 z2
                  rw [← hy] at z0 z1 z2
                  replace z0 := (HB6.out.cell (World.block_lt_of_cell? w _ z0)).trans z0
                  replace z1 := (HB6.out.cell (World.block_lt_of_cell? w _ z1)).trans z1
                  replace z2 := (HB6.out.cell (World.block_lt_of_cell? w _ z2)).trans z2
                  clear hy c1
                  have HOK : Aside0 (okAt l0 i = decide (cmpS y x < 0)) := ⟨by unfold okAt; rw [← HX.out, ← HY.out, HD.out, decide_eq_false c4, c1b, decide_eq_true (by omega), decide_eq_true (by omega), cmpS_lt]; rfl⟩
                  have HOr := Aside0.mk (fun W => span_order.calls 3 y.f0 y.f1 y.f2 x.f0 x.f1 x.f2 _ W (order_val y x))
                  have p1 : (0 ≤ (i : Int) - 1) = True := eq_true (by omega)
                  have q1 : ((i : Int) - 1 < (l0.length : Int)) = True := eq_true (by omega)
                  have p2 : (1 ≤ (i : Int)) = True := eq_true (by omega)
                  clear c4
                  clear hlk
                  refine wp_region_qtail 33 (by kernel_rfl) (by kernel_rfl) ?_
                  simp only [List.take_succ_cons, List.take_zero, List.drop_succ_cons, List.drop_zero]
                  iterate 33 (go_big_quiet_step (fail))
                  refine wpQuiet_nil ?_
                  have HB7 := Aside0.mk (below_drew1 HB6.out)
                  have HM8 : Aside0 (MapAt w6.drew w.heap.size (i + 1) (l0.take (i + 1))) := ⟨HM7.out⟩
                  clear HM7 y0 y1 y2 z0 z1 z2 hlkd HM6 BK6 HB6
                  generalize w6.drew = w7 at HB7 HM8 ⊢
                  go_wp2_with (go_at_call 24; refine (HOr.out _).mono ?_; rintro e w8 ⟨rfl, hb8⟩; have HB8 := Aside0.mk hb8; clear hb8)
                  go_meet
                  case rel => exact ⟨by rw [HOK.out]; by_cases h : cmpS y x < 0 <;> simp [h] <;> omega, ⟨fun _ => HM8.out.kept (grown_of_below HB8.out none) (by simp)⟩, ⟨below_step HB7.out HB8.out⟩⟩
      case rest =>
        obtain ⟨e55, HM7, HB7⟩ := hcut
        clear y0 y1 y2 hx0 hx1 hx2 hw0 hw1 hw2 p0 q0 hlb
        by_cases hok : okAt l0 i = true
        · obtain rfl := e55.trans (show Value.bool (!okAt l0 i) = .bool false by rw [hok]; rfl)
          have HOK := Aside0.mk hok
          clear hok e55
          go_wp2
          go_roundw
          case rel => exact ⟨i + 1, by omega, by go_num, ⟨fun j hj => by
            rcases Nat.lt_or_ge j i with h | h
            · exact HO.out j h
            · rw [show j = i by omega]; exact HOK.out⟩, ⟨HM7.out HOK.out⟩, HB7⟩
          case measure => simp [intOf]; omega
        · have hof : okAt l0 i = false := by simpa using hok
          obtain rfl := e55.trans (show Value.bool (!okAt l0 i) = .bool true by rw [hof]; rfl)
          have HOF := Aside0.mk hof
          clear hok hof e55
          go_wp2
          go_ret
          exact ⟨by rw [← HF.out, fit_of_bad hlt HOF.out]; rfl, HB7.out⟩
    · have hlb : decide ((i : Int) < (l0.length : Int)) = false := decide_eq_false (by omega)
      have hall : fitB l0 = decide (l0.length ≤ 32) := fit_of_all (fun j hj => HO.out j (Nat.lt_of_lt_of_le hj (Nat.le_of_not_lt hlt)))
      have HALL := Aside0.mk hall
      clear hall
      go_wp2
      go_ret
      exact ⟨by rw [← HF.out, HALL.out]; by_cases h : l0.length ≤ 32 <;> simp [h] <;> omega, HB.out⟩
def span_Fit.f (l0 : List S25) : Option Bool := if (∀ x ∈ l0, x.f0.size ≤ maxLen) ∧ l0.length < 4398046511104 then some (fitB l0) else none
theorem span_Fit.calls (A0 : Option Addr) (c0 : Nat) (l0 : List S25) (r : Bool) (w : World) (hr0 : Kd.C k25 w A0 l0.length l0) (hc0 : l0.length ≤ c0) (h : span_Fit.f l0 = some r) :
    Calls Try.prog 8 #[.slice A0 l0.length c0] w fun e w' => e = .returned (.bool r) ∧ Below w.heap.size w w' := by
  unfold span_Fit.f at h
  split at h
  case isFalse => cases h
  rename_i hh
  exact span_Fit.calls0 A0 c0 l0 r w hr0 hc0 hh.1 hh.2 (Option.some.inj h)
end Go.Proofs.Ythcoiabgemclbaa.PD
/- span.Drop and span.Put. -/
namespace Go.Proofs.Ythcoiabgemclbaa.PD
open Go.RowKit Go.Shelf Go.Proofs.YthcoiabgemclbaaW.PrintWords Go.Proofs.YthcoiabgemclbaaW.PrintLast Go.Proofs.YthcoiabgemclbaaW.PrintMore
attribute [local go_sem] isSome_setCell max2_int min2_int max_two min_two
set_option linter.unusedVariables false
set_option linter.unusedSimpArgs false
def span_Drop.f (l0 : List (S25)) (a1 : ByteArray) : Option ((List (S25))) := if l0.length < 4398046511104 then some (dropL l0 a1) else none
set_option maxHeartbeats 1600000 in
set_option maxRecDepth 100000 in
theorem span_Drop.calls (A0 : Option Addr) (c0 : Nat) (l0 : List (S25)) (a1 : ByteArray) (r : List (S25)) (w : World) (hr0 : Kd.C k25 w A0 l0.length l0) (hc0 : l0.length ≤ c0) (h : span_Drop.f l0 a1 = some r) :
    Calls Try.prog 15 #[.slice A0 l0.length c0, .string a1] w fun e w' => ∃ v0_ : Value, e = .returned (v0_) ∧ Kd.R k25 25 w' w.heap.size (fun _ => True) v0_ r ∧ Below w.heap.size w w' := by
  unfold span_Drop.f at h
  split at h
  case isFalse => cases h
  rename_i hlim
  obtain rfl := Option.some.inj h
  clear h
  have hb1 := (Below.refl w.heap.size w).alloc (Nat.le_refl _) (.cells #[.string a1] 9)
  have HC := Aside0.mk (cloneSp A0 c0 l0 _ (Kd.C_below hr0 hb1) hc0 hlim)
  have HX := Aside0.mk (Boxed.new w 9 (.string a1))
  have HB1 := Aside0.mk hb1
  clear hr0 hc0 hlim hb1
  go_enter Try.func15, Try.ntmps15
  go_wp2_with (first | (go_at_call 25; refine HC.out.mono ?_; rintro e w2 ⟨v1, rfl, hR, hb2⟩; have HD := Aside0.mk (delete_calls w.heap.size w.heap.size a1 v1 l0 w2 (Kd.R_lower hR HB1.out.size) (boxed_below HX.out hb2) (Nat.le_trans HB1.out.size hb2.size)); have HB2 := Aside0.mk (HB1.out.trans (hb2.mono HB1.out.size)); clear hR hb2) | (go_at_call 30; refine HD.out.mono ?_; rintro e w3 ⟨v2, rfl, hR, hb3⟩; have HR := Aside0.mk hR; have HB3 := Aside0.mk (HB2.out.trans hb3); clear hR hb3))
  go_ret
  exact ⟨_, rfl, HR.out, HB3.out⟩
theorem insL_perm (x : S25) (l : List S25) : (insL x l).Perm (l ++ [x]) := by
  induction l with
  | nil => exact List.Perm.refl _
  | cons y r ih =>
    unfold insL
    split
    · exact (List.perm_append_comm (l₁ := [x]) (l₂ := y :: r))
    · exact ih.cons y
theorem mem_insL {x y : S25} {l : List S25} (h : y ∈ insL x l) : y = x ∨ y ∈ l := by
  have := (insL_perm x l).subset h
  simp at this
  exact this.symm
theorem insL_sorted (x : S25) (l : List S25) (hs : l.Pairwise (fun a b => ltS a b = true)) (hx : ∀ y ∈ l, y.f0 ≠ x.f0) : (insL x l).Pairwise (fun a b => ltS a b = true) := by
  induction l with
  | nil => simp [insL]
  | cons y r ih =>
    rw [List.pairwise_cons] at hs
    unfold insL
    cases h : ltS x y with
    | true =>
      simp only [if_true]
      rw [List.pairwise_cons, List.pairwise_cons]
      refine ⟨fun z hz => ?_, hs⟩
      rcases List.mem_cons.1 hz with rfl | hz
      · exact h
      · exact ltS_trans h (hs.1 z hz)
    | false =>
      simp only [Bool.false_eq_true, if_false]
      rw [List.pairwise_cons]
      refine ⟨fun z hz => ?_, ih hs.2 (fun z hz => hx z (List.mem_cons_of_mem _ hz))⟩
      rcases mem_insL hz with rfl | hz
      · cases h2 : ltS y z with
        | true => rfl
        | false => exact absurd (ltS_total h h2).2.symm (hx y (List.mem_cons_self ..))
      · exact hs.1 z hz
theorem fit_at {l : List S25} (h : fitB l = true) (i : Nat) (hi : i < l.length) : okAt l i = true := by
  unfold fitB at h
  rw [Bool.and_eq_true, List.all_eq_true] at h
  exact h.1 i (List.mem_range.2 hi)
theorem fit_len {l : List S25} (h : fitB l = true) : l.length ≤ 32 := by
  unfold fitB at h
  rw [Bool.and_eq_true] at h
  simpa using h.2
theorem fit_size {l : List S25} (h : fitB l = true) : ∀ x ∈ l, x.f0.size ≤ maxLen := fun x hx => by
  obtain ⟨i, hi, rfl⟩ := List.getElem_of_mem hx
  have h1 := fit_at h i hi
  unfold okAt at h1
  simp only [Bool.and_eq_true] at h1
  have h2 : (rd_T25 l (i : Int)).f0.size ≤ 24 := by simpa using h1.1.1.2
  have e : rd_T25 l (i : Int) = l[i] := by simp only [rd_T25, Int.toNat_natCast]; simp [hi]
  rw [e] at h2
  unfold maxLen
  omega
theorem pairwise_step {l : List S25} (h : ∀ i, (hi : i + 1 < l.length) → ltS l[i] l[i + 1] = true) : l.Pairwise (fun a b => ltS a b = true) := by
  rw [List.pairwise_iff_getElem]
  intro i j hi hj hij
  obtain ⟨k, rfl⟩ : ∃ k, j = i + 1 + k := ⟨j - (i + 1), by omega⟩
  induction k with
  | zero => exact h i (by omega)
  | succ k ih => exact ltS_trans (ih (by omega) (by omega)) (h (i + 1 + k) (by omega))
theorem fit_sorted {l : List S25} (h : fitB l = true) : l.Pairwise (fun a b => ltS a b = true) := by
  refine pairwise_step fun i hi => ?_
  have h1 := fit_at h (i + 1) hi
  unfold okAt at h1
  simp only [Bool.and_eq_true, Bool.or_eq_true] at h1
  rcases h1.2 with h2 | h2
  · simp at h2
  · have e1 : rd_T25 l (((i + 1 : Nat) : Int) - 1) = l[i] := by
      rw [show (((i + 1 : Nat) : Int) - 1) = (i : Int) by omega]
      simp [rd_T25, show i < l.length by omega]
    have e2 : rd_T25 l ((i + 1 : Nat) : Int) = l[i + 1] := by simp only [rd_T25, Int.toNat_natCast]; simp [hi]
    rw [e1, e2] at h2
    exact h2
theorem drop_ne {l : List S25} {n : ByteArray} {y : S25} (h : y ∈ dropL l n) : y.f0 ≠ n := by
  unfold dropL at h
  rw [List.mem_filter] at h
  intro e
  subst e
  simp [sameN] at h
theorem drop_sorted {l : List S25} (n : ByteArray) (h : l.Pairwise (fun a b => ltS a b = true)) : (dropL l n).Pairwise (fun a b => ltS a b = true) := h.filter _
def span_Put.T1 : Bool × List (List Nat × List Nat) := (true, [([], []), ([], []), ([1], [1]), ([0, 2], [0, 2]), ([], []), ([4], [4]), ([3, 5, 3], [3, 5]), ([6, 6, 0, 1, 2, 3, 4, 5, 6], [6])])
def span_Put.B1 : List Nat := [0, 0, 2, 7, 0, 16, 63, 127]
theorem span_Put.tab1 : rtab .any (opsOf Try.f7 1) = span_Put.T1 := by kernel_rfl
theorem span_Put.bits1 : waitsOk span_Put.T1.2 span_Put.B1 = true := by kernel_rfl
def span_Put.f (l0 : List (S25)) (a1_0 : ByteArray) (a1_1 : Int) (a1_2 : Int) : Option ((List (S25))) := if fitB l0 = true ∧ a1_0.size ≤ maxLen then some (putL l0 ⟨a1_0, a1_1, a1_2⟩) else none
theorem below_own {w W W' : World} {v : Value} (h : Below w.heap.size w W) (hg : W.grownBy W' v.ownBlock) (hb : ∀ k, v.ownBlock = some k → w.heap.size ≤ k) : Below w.heap.size w W' := by
  refine h.trans ⟨hg.os, hg.tape, hg.output, hg.size, fun k hk => hg.block k (Nat.lt_of_lt_of_le hk h.size) (fun e => ?_)⟩
  have := hb k e.symm
  omega
theorem fit_calls2 (A : Option Addr) (c : Nat) (ys : List S25) (n : Nat) (b : Bool) (w : World) {base : Nat} {ok : Nat → Prop} (hR : Kd.R k25 25 w base ok (.slice A n c) ys) (hl : ys.length = n) (hz : ∀ x ∈ ys, x.f0.size ≤ maxLen) (hs : n < 4398046511104) (hf : fitB ys = b) :
    Calls Try.prog 8 #[.slice A n c] w fun e w' => e = .returned (.bool b) ∧ Below w.heap.size w w' := by
  subst hl
  exact span_Fit.calls A c ys b w (Kd.R_reads' hR).2.2 (Kd.R_reads' hR).2.1 (by unfold span_Fit.f; rw [if_pos ⟨hz, hs⟩, hf])
set_option maxHeartbeats 8000000 in
set_option maxRecDepth 100000 in
theorem span_Put.calls (A0 : Option Addr) (c0 : Nat) (l0 : List (S25)) (a1_0 : ByteArray) (a1_1 : Int) (a1_2 : Int) (r : List (S25)) (w : World) (hr0 : Kd.C k25 w A0 l0.length l0) (hc0 : l0.length ≤ c0) (h : span_Put.f l0 a1_0 a1_1 a1_2 = some r) :
    Calls Try.prog 7 #[.slice A0 l0.length c0, .agg #[.string a1_0, .int .i64 a1_1, .int .i64 a1_2]] w fun e w' => ∃ v0_ : Value, e = .returned (v0_) ∧ Kd.R k25 25 w' w.heap.size (fun _ => True) v0_ r ∧ Below w.heap.size w w' := by
  unfold span_Put.f at h
  split at h
  case isFalse => cases h
  rename_i hfit0
  obtain ⟨hfit, hsx⟩ := hfit0
  obtain rfl := Option.some.inj h
  clear h
  have hu25 := Try.underlying25
  have hl32 := fit_len hfit
  have HR0 := Aside0.mk hr0
  have HC0 := Aside0.mk hc0
  clear hr0 hc0
  have HB := Aside0.mk (Below.refl w.heap.size w)
  obtain ⟨t126, ht126⟩ : ∃ t, t = dropL l0 a1_0 := ⟨_, rfl⟩
  have A3 : Aside0 (span_Drop.f l0 a1_0 = some t126) := ⟨by unfold span_Drop.f; rw [if_pos (by omega), ht126]⟩
  have hdl : t126.length ≤ l0.length := by rw [ht126]; exact List.length_filter_le _ _
  obtain ⟨y129, hy129⟩ : ∃ y_ : List (S25), y_ = (([(⟨a1_0, a1_1, a1_2⟩ : S25)] : List (S25))) := ⟨_, rfl⟩
  have LMc4 : Aside0 (t126.length + y129.length < 4398046511104) := ⟨by rw [hy129]; simp; omega⟩
  obtain ⟨y132, hy132⟩ : ∃ y_ : List (S25), y_ = (t126 ++ y129) := ⟨_, rfl⟩
  obtain ⟨ys, hys⟩ : ∃ ys, ys = insL ⟨a1_0, a1_1, a1_2⟩ t126 := ⟨_, rfl⟩
  have HPerm : Aside0 (ys.Perm y132) := ⟨by rw [hys, hy132, hy129]; exact insL_perm _ _⟩
  have HSort : Aside0 (ys.Pairwise (fun a b => ltS a b = true)) := ⟨by rw [hys]; exact insL_sorted _ _ (by rw [ht126]; exact drop_sorted _ (fit_sorted hfit)) (fun y hy => by rw [ht126] at hy; exact drop_ne hy)⟩
  have HLen : Aside0 (0 < y132.length ∧ y132.length < 4611686018427387904) := ⟨by rw [hy132, hy129]; simp; omega⟩
  have HSz : Aside0 (∀ x ∈ ys, x.f0.size ≤ maxLen) := ⟨fun x hx => by
    rw [hys] at hx
    rcases mem_insL hx with rfl | hx
    · exact hsx
    · rw [ht126] at hx
      exact fit_size hfit x (List.mem_filter.1 hx).1⟩
  have HLn : Aside0 (y132.length < 4398046511104) := ⟨by rw [hy132, hy129]; simp; omega⟩
  have HYL : Aside0 (ys.length = y132.length) := ⟨HPerm.out.length_eq⟩
  have HClone := Aside0.mk (fun W hb => cloneSp A0 c0 l0 W (Kd.C_below HR0.out hb) HC0.out (by omega))
  have HPut : Aside0 (putL l0 ⟨a1_0, a1_1, a1_2⟩ = if fitB ys = true then ys else l0) := ⟨by rw [hys, ht126]; rfl⟩
  have Ny129 := Aside0.mk hy129
  have Ny132 := Aside0.mk hy132
  clear hy129 hy132 hys ht126 hdl hl32 hfit hsx
  go_enter Try.func7, Try.ntmps7
  try go_wp2_with (first | ((with_reducible refine gate_dst (N := 3) rfl ?_); refine box_event ?hg (N := 3) ?hd (cs := #[.string a1_0, .int .i64 a1_1, .int .i64 a1_2]) (t := 25) ?hr ?_; (case hd => rfl); (case hg => rfl); (case hr => first | (go_simp; done) | (go_simp; rfl)); intro gb125 hg w7 hbox hb; have n0_ := Aside0.mk (below_step (by repeat (first | (with_reducible first | exact HB.out | apply below_alloc | apply pw_below_drewN | apply below_drew1) | exact HB.out)) hb); have n1_ := Aside0.mk (hbox); have n2_ := Aside0.mk ((by rw [hg]; exact (below_size (by repeat (first | (with_reducible first | exact HB.out | apply below_alloc | apply pw_below_drewN | apply below_drew1) | exact HB.out))) : w.heap.size ≤ gb125)); have n3_ := Aside0.mk ((by rw [hg]; exact (below_size (by repeat (first | (with_reducible first | exact HB.out | apply below_alloc | apply pw_below_drewN | apply below_drew1) | exact HB.out))) : w.heap.size ≤ gb125)); clear HB; have HB := n0_; have BK125 := n1_; have GW125 := n2_; have GE125 := n3_; clear n0_ n1_ n2_ n3_; clear hb hbox hg))
  have n0_ := Aside0.mk (blk_drew BK125.out)
  have n1_ := Aside0.mk (below_drew1 HB.out)
  clear BK125
  clear HB
  have BK125 := n0_
  have HB := n1_
  clear n0_ n1_
  refine start_ (n := 8) (S := fun w' => w'.cell? ⟨gb125, 0, none⟩ = some (.string a1_0) ∧ w'.cell? ⟨gb125, 1, none⟩ = some (.int .i64 a1_1) ∧ w'.cell? ⟨gb125, 2, none⟩ = some (.int .i64 a1_2)) (ds := []) #[false, false, false, false, false, false, false, false] (by kernel_rfl) rfl rfl ⟨(blk_cell BK125.out 0).trans rfl, (blk_cell BK125.out 1).trans rfl, (blk_cell BK125.out 2).trans rfl⟩ (fun hHeld => ?_); refine with_tabW span_Put.tab1 span_Put.bits1 (fun HT_ HW_ => ?_)
  generalize w7.drew = w8 at BK125 HB hHeld ⊢
  refine pure_ (i := 0) (N := some 6) (v := ?_) (a' := ?_) #[true, false, false, false, false, false, false, false] rfl rfl (any_of HT_.out (by kernel_rfl)) (fun _ _ _ h => h) (Or.inl ⟨by rfl, ?_⟩) ?_ ?_
  rotate_left
  · intro w'
    go_simp
    with_reducible rfl
  rotate_left
  · simp only [Act.put, List.setIfInBounds_toArray, List.set_cons_zero, List.set_cons_succ, i64_w, i32_w]
    rfl
  refine pure_ (i := 1) (N := some 7) (v := ?_) (a' := ?_) #[true, true, false, false, false, false, false, false] rfl rfl (any_of HT_.out (by kernel_rfl)) (fun _ _ _ h => h) (Or.inl ⟨by rfl, ?_⟩) ?_ ?_
  rotate_left
  · intro w'
    go_simp
    with_reducible rfl
  rotate_left
  · simp only [Act.put, List.setIfInBounds_toArray, List.set_cons_zero, List.set_cons_succ, i64_w, i32_w]
    rfl
  refine take_ (i := 2) (N := some 8) (v := ?_) (a' := ?_) #[true, true, true, false, false, false, false, false] rfl rfl (take_ofW HT_.out HW_.out (by kernel_rfl)) (fun _ _ _ h => h) (Or.inl ⟨by rfl, ?_⟩) hHeld ?_ ?_
  rotate_left
  · rintro w' ⟨s0, s1, s2⟩
    go_simp
    with_reducible rfl
  rotate_left
  · simp only [Act.put, List.setIfInBounds_toArray, List.set_cons_zero, List.set_cons_succ, i64_w, i32_w]
    rfl
  refine take_ (i := 4) (N := some 10) (v := ?_) (a' := ?_) #[true, true, true, false, true, false, false, false] rfl rfl (take_ofW HT_.out HW_.out (by kernel_rfl)) (fun _ _ _ h => h) (Or.inl ⟨by rfl, ?_⟩) hHeld ?_ ?_
  rotate_left
  · rintro w' ⟨s0, s1, s2⟩
    go_simp
    with_reducible rfl
  rotate_left
  · simp only [Act.put, List.setIfInBounds_toArray, List.set_cons_zero, List.set_cons_succ, i64_w, i32_w]
    rfl
  refine join_ (σ := Value × Value) 2 #[true, true, true, true, true, true, false, false] (fun s_ => [(9, s_.1), (11, s_.2)]) (fun s_ w' => (w'.cell? ⟨gb125, 0, none⟩ = some (.string a1_0) ∧ w'.cell? ⟨gb125, 1, none⟩ = some (.int .i64 a1_1) ∧ w'.cell? ⟨gb125, 2, none⟩ = some (.int .i64 a1_2)) ∧ (Kd.R k25 25 w' w.heap.size (fun k_ => some k_ ≠ (s_.2 : Value).ownBlock ∧ k_ ≠ gb125) s_.1 t126) ∧ (Kd.R k25 25 w' w.heap.size (fun k_ => some k_ ≠ (s_.1 : Value).ownBlock ∧ k_ ≠ gb125) s_.2 y129) ∧ (w'.heap[gb125]? = some (.cells #[.string a1_0, .int .i64 a1_1, .int .i64 a1_2] 25 (0, 0))) ∧ (Below w.heap.size w w')) ?_ ?_
  rotate_left
  · intro hCont
    refine two_ (i := 3) (j := 5) (Ni := some 9) (Nj := some 11) #[true, true, true, true, true, false, false, false] #[true, true, true, false, true, true, false, false] rfl rfl rfl rfl (two_of HT_.out (by kernel_rfl)) (by decide) (by decide) (fun K hK => ?_) (fun K hK => ?_)
    · skip
      refine goes_ Try.func15 (by kernel_rfl) rfl #[.slice A0 l0.length c0, .string a1_0] (by rfl) rfl rfl (by (try simp only [List.map_toArray, List.map_cons, List.map_nil]); first | done | rfl | (simp only [List.length_drop, List.length_take]; rfl)) ?_
      with_reducible refine (span_Drop.calls _ _ l0 a1_0 t126 _ ?side1 ?side2 A3.out).mono ?_
      (case side1 => repeat (first | exact (Kd.C_below HR0.out HB.out) | (with_reducible refine Kd.C_alloc ?_ _) | (with_reducible refine Kd.C_drewN ?_ _) | (with_reducible refine Kd.C_drew ?_)))
      (case side2 => exact HC0.out)
      rintro e w9 ⟨v127, rfl, ho0, hb⟩
      refine ⟨_, rfl, ?_⟩
      have n0_ := Aside0.mk (Kd.R_lower (Kd.R_newB ho0 (g := gb125) (o := .cells #[.string a1_0, .int .i64 a1_1, .int .i64 a1_2] 25 (0, 0)) (by (with_reducible repeat (first | refine blk_drewN ?_ _ | refine blk_drew ?_ | refine blk_alloc ?_ _)); exact BK125.out)) (below_size (by repeat (first | (with_reducible first | exact HB.out | apply below_alloc | apply pw_below_drewN | apply below_drew1 | refine below_set ?_ GE125.out) | exact HB.out))))
      have n1_ := Aside0.mk (blk_below (g := gb125) (o := .cells #[.string a1_0, .int .i64 a1_1, .int .i64 a1_2] 25 (0, 0)) (by (with_reducible repeat (first | refine blk_drewN ?_ _ | refine blk_drew ?_ | refine blk_alloc ?_ _)); exact BK125.out) hb)
      have n2_ := Aside0.mk (below_step (by repeat (first | (with_reducible first | exact HB.out | apply below_alloc | apply pw_below_drewN | apply below_drew1 | refine below_set ?_ GE125.out) | exact HB.out)) hb)
      clear BK125
      clear HB
      have HO128 := n0_
      have BK125 := n1_
      have HB := n2_
      clear n0_ n1_ n2_
      (try clear hb)
      (try clear hb2)
      (try clear hk)
      (try clear hi)
      (try clear ho0)
      refine hK.out _ _ ⟨(blk_cell BK125.out 0).trans rfl, (blk_cell BK125.out 1).trans rfl, (blk_cell BK125.out 2).trans rfl⟩ (fun hHeld => ?_)
      clear hK K
      refine norm_ (a' := ?_) ?_ ?_
      rotate_left
      · show Act.put _ (some 9) _ = _
        simp only [Act.put, List.setIfInBounds_toArray, List.set_cons_zero, List.set_cons_succ, i64_w, i32_w]
        rfl
      refine one_ (i := 5) (N := some 11) #[true, true, true, true, true, true, false, false] rfl rfl (one_of HT_.out (by kernel_rfl)) (by decide) (fun K hK => ?_)
      refine Kd.R_lit_step k25 _ 25 ?hg (N := 11) ?hd (xs := ([(⟨a1_0, a1_1, a1_2⟩ : S25)] : List (S25))) (inner := [.string a1_0, .int .i64 a1_1, .int .i64 a1_2]) (ok := fun _ => True) (okp := fun _ => True) ?hr ?hp (fun _ hk => hk) trivial (Below.refl _ _) (Nat.le_refl _) (by simp) ?_; (case hd => rfl); (case hg => rfl); (case hr => first | (go_simp; done) | (go_simp; rfl)); (case hp => exact (Reps.c3 (show Kd.M k25 _ _ _ (⟨a1_0, a1_1, a1_2⟩ : S25) [.string a1_0, .int .i64 a1_1, .int .i64 a1_2] from (k25_mkM _ _ _ (⟨a1_0, a1_1, a1_2⟩ : S25) )) (Reps.none _ _)))
      intro v130 w10 ho11 hb hg_ hnew_
      clear hg_ hnew_
      (first | rw [← Ny129.out] at ho11 | (simp only [Int.reduceToNat] at ho11; rw [← Ny129.out] at ho11))
      have n0_ := Aside0.mk (Kd.R_elder' (by (with_reducible repeat (first | apply Kd.R_alloc | apply Kd.R_drewN | apply Kd.R_drew)); exact HO128.out) (Kd.R_base ho11) hb)
      have n1_ := Aside0.mk (Kd.R_lower (Kd.R_newB (Kd.R_new' ho11 (Kd.R_lt (by (with_reducible repeat (first | apply Kd.R_alloc | apply Kd.R_drewN | apply Kd.R_drew)); exact HO128.out))) (g := gb125) (o := .cells #[.string a1_0, .int .i64 a1_1, .int .i64 a1_2] 25 (0, 0)) (by (with_reducible repeat (first | refine blk_drewN ?_ _ | refine blk_drew ?_ | refine blk_alloc ?_ _)); exact BK125.out)) (below_size (by repeat (first | (with_reducible first | exact HB.out | apply below_alloc | apply pw_below_drewN | apply below_drew1 | refine below_set ?_ GE125.out) | exact HB.out))))
      have n2_ := Aside0.mk (blk_below (g := gb125) (o := .cells #[.string a1_0, .int .i64 a1_1, .int .i64 a1_2] 25 (0, 0)) (by (with_reducible repeat (first | refine blk_drewN ?_ _ | refine blk_drew ?_ | refine blk_alloc ?_ _)); exact BK125.out) hb)
      have n3_ := Aside0.mk (below_step (by repeat (first | (with_reducible first | exact HB.out | apply below_alloc | apply pw_below_drewN | apply below_drew1 | refine below_set ?_ GE125.out) | exact HB.out)) hb)
      clear HO128
      clear BK125
      clear HB
      have HO128 := n0_
      have HO131 := n1_
      have BK125 := n2_
      have HB := n3_
      clear n0_ n1_ n2_ n3_
      clear hb ho11
      refine hK.out _ _ ⟨(blk_cell BK125.out 0).trans rfl, (blk_cell BK125.out 1).trans rfl, (blk_cell BK125.out 2).trans rfl⟩ (fun hHeld => ?_)
      clear hK K
      refine norm_ (a' := ?_) ?_ ?_
      rotate_left
      · show Act.put _ (some 11) _ = _
        simp only [Act.put, List.setIfInBounds_toArray, List.set_cons_zero, List.set_cons_succ, i64_w, i32_w]
        rfl
      exact norm_ (by simp only [putAll, Act.put, List.setIfInBounds_toArray, List.set_cons_zero, List.set_cons_succ]) (hCont (v127, v130) _ ⟨hHeld, (by (with_reducible repeat (first | apply Kd.R_alloc | apply Kd.R_drewN | apply Kd.R_drew)); exact Kd.R_mono HO128.out (fun _ hk => ⟨hk.2, hk.1.2⟩)), (by (with_reducible repeat (first | apply Kd.R_alloc | apply Kd.R_drewN | apply Kd.R_drew)); exact Kd.R_mono HO131.out (fun _ hk => ⟨hk.1.2, hk.2⟩)), (by (with_reducible repeat (first | refine blk_drewN ?_ _ | refine blk_drew ?_ | refine blk_alloc ?_ _)); exact BK125.out), (by repeat (first | (with_reducible first | exact HB.out | apply below_alloc | apply pw_below_drewN | apply below_drew1 | refine below_set ?_ GE125.out) | exact HB.out))⟩)
    · skip
      refine Kd.R_lit_step k25 _ 25 ?hg (N := 11) ?hd (xs := ([(⟨a1_0, a1_1, a1_2⟩ : S25)] : List (S25))) (inner := [.string a1_0, .int .i64 a1_1, .int .i64 a1_2]) (ok := fun _ => True) (okp := fun _ => True) ?hr ?hp (fun _ hk => hk) trivial (Below.refl _ _) (Nat.le_refl _) (by simp) ?_; (case hd => rfl); (case hg => rfl); (case hr => first | (go_simp; done) | (go_simp; rfl)); (case hp => exact (Reps.c3 (show Kd.M k25 _ _ _ (⟨a1_0, a1_1, a1_2⟩ : S25) [.string a1_0, .int .i64 a1_1, .int .i64 a1_2] from (k25_mkM _ _ _ (⟨a1_0, a1_1, a1_2⟩ : S25) )) (Reps.none _ _)))
      intro v130 w9 ho10 hb hg_ hnew_
      clear hg_ hnew_
      (first | rw [← Ny129.out] at ho10 | (simp only [Int.reduceToNat] at ho10; rw [← Ny129.out] at ho10))
      have n0_ := Aside0.mk (Kd.R_lower (Kd.R_newB ho10 (g := gb125) (o := .cells #[.string a1_0, .int .i64 a1_1, .int .i64 a1_2] 25 (0, 0)) (by (with_reducible repeat (first | refine blk_drewN ?_ _ | refine blk_drew ?_ | refine blk_alloc ?_ _)); exact BK125.out)) (below_size (by repeat (first | (with_reducible first | exact HB.out | apply below_alloc | apply pw_below_drewN | apply below_drew1 | refine below_set ?_ GE125.out) | exact HB.out))))
      have n1_ := Aside0.mk (blk_below (g := gb125) (o := .cells #[.string a1_0, .int .i64 a1_1, .int .i64 a1_2] 25 (0, 0)) (by (with_reducible repeat (first | refine blk_drewN ?_ _ | refine blk_drew ?_ | refine blk_alloc ?_ _)); exact BK125.out) hb)
      have n2_ := Aside0.mk (below_step (by repeat (first | (with_reducible first | exact HB.out | apply below_alloc | apply pw_below_drewN | apply below_drew1 | refine below_set ?_ GE125.out) | exact HB.out)) hb)
      clear BK125
      clear HB
      have HO131 := n0_
      have BK125 := n1_
      have HB := n2_
      clear n0_ n1_ n2_
      clear hb ho10
      refine hK.out _ _ ⟨(blk_cell BK125.out 0).trans rfl, (blk_cell BK125.out 1).trans rfl, (blk_cell BK125.out 2).trans rfl⟩ (fun hHeld => ?_)
      clear hK K
      refine norm_ (a' := ?_) ?_ ?_
      rotate_left
      · show Act.put _ (some 11) _ = _
        simp only [Act.put, List.setIfInBounds_toArray, List.set_cons_zero, List.set_cons_succ, i64_w, i32_w]
        rfl
      refine one_ (i := 3) (N := some 9) #[true, true, true, true, true, true, false, false] rfl rfl (one_of HT_.out (by kernel_rfl)) (by decide) (fun K hK => ?_)
      refine goes_ Try.func15 (by kernel_rfl) rfl #[.slice A0 l0.length c0, .string a1_0] (by rfl) rfl rfl (by (try simp only [List.map_toArray, List.map_cons, List.map_nil]); first | done | rfl | (simp only [List.length_drop, List.length_take]; rfl)) ?_
      with_reducible refine (span_Drop.calls _ _ l0 a1_0 t126 _ ?side1 ?side2 A3.out).mono ?_
      (case side1 => repeat (first | exact (Kd.C_below HR0.out HB.out) | (with_reducible refine Kd.C_alloc ?_ _) | (with_reducible refine Kd.C_drewN ?_ _) | (with_reducible refine Kd.C_drew ?_)))
      (case side2 => exact HC0.out)
      rintro e w11 ⟨v127, rfl, ho0, hb⟩
      refine ⟨_, rfl, ?_⟩
      have n0_ := Aside0.mk (Kd.R_elder' (by (with_reducible repeat (first | apply Kd.R_alloc | apply Kd.R_drewN | apply Kd.R_drew)); exact HO131.out) (Kd.R_base ho0) hb)
      have n1_ := Aside0.mk (Kd.R_lower (Kd.R_newB (Kd.R_new' ho0 (Kd.R_lt (by (with_reducible repeat (first | apply Kd.R_alloc | apply Kd.R_drewN | apply Kd.R_drew)); exact HO131.out))) (g := gb125) (o := .cells #[.string a1_0, .int .i64 a1_1, .int .i64 a1_2] 25 (0, 0)) (by (with_reducible repeat (first | refine blk_drewN ?_ _ | refine blk_drew ?_ | refine blk_alloc ?_ _)); exact BK125.out)) (below_size (by repeat (first | (with_reducible first | exact HB.out | apply below_alloc | apply pw_below_drewN | apply below_drew1 | refine below_set ?_ GE125.out) | exact HB.out))))
      have n2_ := Aside0.mk (blk_below (g := gb125) (o := .cells #[.string a1_0, .int .i64 a1_1, .int .i64 a1_2] 25 (0, 0)) (by (with_reducible repeat (first | refine blk_drewN ?_ _ | refine blk_drew ?_ | refine blk_alloc ?_ _)); exact BK125.out) hb)
      have n3_ := Aside0.mk (below_step (by repeat (first | (with_reducible first | exact HB.out | apply below_alloc | apply pw_below_drewN | apply below_drew1 | refine below_set ?_ GE125.out) | exact HB.out)) hb)
      clear HO131
      clear BK125
      clear HB
      have HO131 := n0_
      have HO128 := n1_
      have BK125 := n2_
      have HB := n3_
      clear n0_ n1_ n2_ n3_
      (try clear hb)
      (try clear hb2)
      (try clear hk)
      (try clear hi)
      (try clear ho0)
      refine hK.out _ _ ⟨(blk_cell BK125.out 0).trans rfl, (blk_cell BK125.out 1).trans rfl, (blk_cell BK125.out 2).trans rfl⟩ (fun hHeld => ?_)
      clear hK K
      refine norm_ (a' := ?_) ?_ ?_
      rotate_left
      · show Act.put _ (some 9) _ = _
        simp only [Act.put, List.setIfInBounds_toArray, List.set_cons_zero, List.set_cons_succ, i64_w, i32_w]
        rfl
      exact norm_ (by simp only [putAll, Act.put, List.setIfInBounds_toArray, List.set_cons_zero, List.set_cons_succ]) (hCont (v127, v130) _ ⟨hHeld, (by (with_reducible repeat (first | apply Kd.R_alloc | apply Kd.R_drewN | apply Kd.R_drew)); exact Kd.R_mono HO128.out (fun _ hk => ⟨hk.1.2, hk.2⟩)), (by (with_reducible repeat (first | apply Kd.R_alloc | apply Kd.R_drewN | apply Kd.R_drew)); exact Kd.R_mono HO131.out (fun _ hk => ⟨hk.2, hk.1.2⟩)), (by (with_reducible repeat (first | refine blk_drewN ?_ _ | refine blk_drew ?_ | refine blk_alloc ?_ _)); exact BK125.out), (by repeat (first | (with_reducible first | exact HB.out | apply below_alloc | apply pw_below_drewN | apply below_drew1 | refine below_set ?_ GE125.out) | exact HB.out))⟩)
  rintro ⟨v127, v130⟩ w12 ⟨hS_, h0_, h1_, h2_, h3_⟩
  have n0_ : Aside0 (Kd.R k25 25 w12 w.heap.size (fun k_ => some k_ ≠ (v130 : Value).ownBlock ∧ k_ ≠ gb125) v127 t126) := ⟨h0_⟩
  have n1_ : Aside0 (Kd.R k25 25 w12 w.heap.size (fun k_ => some k_ ≠ (v127 : Value).ownBlock ∧ k_ ≠ gb125) v130 y129) := ⟨h1_⟩
  have n2_ : Aside0 (w12.heap[gb125]? = some (.cells #[.string a1_0, .int .i64 a1_1, .int .i64 a1_2] 25 (0, 0))) := ⟨h2_⟩
  have n3_ : Aside0 (Below w.heap.size w w12) := ⟨h3_⟩
  clear BK125
  clear HB
  clear h0_ h1_ h2_ h3_
  have HO128 := n0_
  have HO131 := n1_
  have BK125 := n2_
  have HB := n3_
  clear n0_ n1_ n2_ n3_
  have hHeld : w12.cell? ⟨gb125, 0, none⟩ = some (.string a1_0) ∧ w12.cell? ⟨gb125, 1, none⟩ = some (.int .i64 a1_1) ∧ w12.cell? ⟨gb125, 2, none⟩ = some (.int .i64 a1_2) := hS_
  obtain ⟨Ao14, co14, eo14⟩ := Kd.R_slice HO131.out
  (first | subst eo14 | (injection eo14 with f1_ f2_ f3_; have f4_ := f1_.symm; have f5_ := f3_.symm; clear f1_ f2_ f3_; subst f4_; subst f5_))
  refine norm_ (a' := ?_) ?_ ?_
  rotate_left
  · simp only [putAll, Act.put, List.setIfInBounds_toArray, List.set_cons_zero, List.set_cons_succ]
    rfl
  refine one_ (i := 6) (N := some 12) #[true, true, true, true, true, true, true, false] rfl rfl (one_of HT_.out (by kernel_rfl)) (by decide) (fun K hK => ?_)
  refine Kd.R_append_rows_step k25 (w0 := w) w.heap.size (by rfl) (.tmp 9) (.tmp 11) 22 25 (.agg #[(.string ⟨#[]⟩), (.int .i64 0), (.int .i64 0)]) 32 rfl Try.underlying22 info25 rfl (by decide) (by omega) v127 t126 y129 _ _ _ (fun k_ => some k_ ≠ (.slice Ao14 y129.length co14 : Value).ownBlock ∧ k_ ≠ gb125) (fun _ => False) rfl rfl ?aO ?aR (fun _ _ h => h) (fun _ h => h.elim) ?aF ?aB ?aS ?aL ?_
  (case aR => repeat (first | exact (Kd.R_reads' HO131.out).2.2 | (with_reducible refine Kd.C_alloc ?_ _) | (with_reducible refine Kd.C_drewN ?_ _) | (with_reducible refine Kd.C_drew ?_)))
  (case aB => exact (by repeat (first | (with_reducible first | exact HB.out | apply below_alloc | apply pw_below_drewN | apply below_drew1 | refine below_set ?_ GE125.out) | exact HB.out)))
  (case aF => exact (fun k_ hk => ⟨Kd.fresh' (Kd.R_lt (by (with_reducible repeat (first | apply Kd.R_alloc | apply Kd.R_drewN | apply Kd.R_drew)); exact HO131.out)) k_ hk, Kd.freshB (g := gb125) (o := .cells #[.string a1_0, .int .i64 a1_1, .int .i64 a1_2] 25 (0, 0)) (by (with_reducible repeat (first | refine blk_drewN ?_ _ | refine blk_drew ?_ | refine blk_alloc ?_ _)); exact BK125.out) k_ hk⟩))
  (case aO => exact (by (with_reducible repeat (first | apply Kd.R_alloc | apply Kd.R_drewN | apply Kd.R_drew)); exact HO128.out))
  (case aS => exact (below_size (by repeat (first | (with_reducible first | exact HB.out | apply below_alloc | apply pw_below_drewN | apply below_drew1 | refine below_set ?_ GE125.out) | exact HB.out))))
  (case aL => have := LMc4.out; omega)
  intro v133 w13 ho hb hg hat
  rw [← Ny132.out] at ho
  have n0_ := Aside0.mk (blk_grown (g := gb125) (o := .cells #[.string a1_0, .int .i64 a1_1, .int .i64 a1_2] 25 (0, 0)) (by (with_reducible repeat (first | refine blk_drewN ?_ _ | refine blk_drew ?_ | refine blk_alloc ?_ _)); exact BK125.out) hg (Kd.R_away HO128.out (fun _ hk => hk.2)))
  have n1_ := Aside0.mk (Kd.R_after (ok := (fun k_ => k_ ≠ gb125)) (by (with_reducible repeat (first | apply Kd.R_alloc | apply Kd.R_drewN | apply Kd.R_drew)); exact Kd.R_mono HO131.out (fun _ hk => ⟨hk.2, hk.1⟩)) hg hat)
  have n2_ := Aside0.mk (hb)
  have n3_ := Aside0.mk (ho)
  clear BK125
  clear HO131
  clear HB
  clear HO128
  have BK125 := n0_
  have HO131 := n1_
  have HB := n2_
  have HO134 := n3_
  clear n0_ n1_ n2_ n3_
  clear ho hb hg hat
  refine hK.out _ _ ⟨(blk_cell BK125.out 0).trans rfl, (blk_cell BK125.out 1).trans rfl, (blk_cell BK125.out 2).trans rfl⟩ (fun hHeld => ?_)
  clear hK K
  refine norm_ (a' := ?_) ?_ ?_
  rotate_left
  · show Act.put _ (some 12) _ = _
    simp only [Act.put, List.setIfInBounds_toArray, List.set_cons_zero, List.set_cons_succ, i64_w, i32_w]
    rfl
  refine pure_ (i := 7) (N := some 5) (v := ?_) (a' := ?_) #[true, true, true, true, true, true, true, true] rfl rfl (any_of HT_.out (by kernel_rfl)) (fun _ _ _ h => h) (Or.inl ⟨by rfl, ?_⟩) ?_ ?_
  rotate_left
  · intro w'
    go_simp
    with_reducible rfl
  rotate_left
  · simp only [Act.put, List.setIfInBounds_toArray, List.set_cons_zero, List.set_cons_succ, i64_w, i32_w]
    rfl
  refine done_ (done_of HT_.out (by kernel_rfl)) ?_
  obtain ⟨Ao15, co15, eo15⟩ := Kd.R_slice HO134.out
  subst eo15
  have hsort := Aside0.mk (sortSp_calls w.heap.size _ _ y132 ys w13 HO134.out HLen.out.1 HLen.out.2 HPerm.out HSort.out)
  cases hf0 : fitB ys with
  | true =>
    have hf := Aside0.mk hf0
    clear hf0
    go_wp2_with (first | (go_at_call 23; refine hsort.out.mono ?_; rintro e w14 ⟨rfl, hR14, hg14⟩; have HR14 := Aside0.mk hR14; have HB14 := Aside0.mk (below_own HB.out hg14 (Kd.R_base HO134.out)); clear hR14 hg14) | (go_at_call 8; refine (fit_calls2 Ao15 co15 ys y132.length true w14 HR14.out HYL.out HSz.out HLn.out hf.out).mono ?_; rintro e w15 ⟨rfl, hb15⟩; have HB15 := Aside0.mk (below_step HB14.out hb15); have HR15 := Aside0.mk (Kd.R_below HR14.out hb15); clear hb15))
    go_ret
    exact ⟨_, rfl, by rw [HPut.out, hf.out, if_pos rfl]; exact Kd.R_mono HR15.out (fun _ _ => trivial), HB15.out⟩
  | false =>
    have hf := Aside0.mk hf0
    clear hf0
    go_wp2_with (first | (go_at_call 23; refine hsort.out.mono ?_; rintro e w14 ⟨rfl, hR14, hg14⟩; have HR14 := Aside0.mk hR14; have HB14 := Aside0.mk (below_own HB.out hg14 (Kd.R_base HO134.out)); clear hR14 hg14) | (go_at_call 8; refine (fit_calls2 Ao15 co15 ys y132.length false w14 HR14.out HYL.out HSz.out HLn.out hf.out).mono ?_; rintro e w15 ⟨rfl, hb15⟩; have HB15 := Aside0.mk (below_step HB14.out hb15); have HR15 := Aside0.mk (Kd.R_below HR14.out hb15); clear hb15) | (go_at_call 25; refine (HClone.out w15 HB15.out).mono ?_; rintro e w16 ⟨v5, rfl, hR16, hb16⟩; have HR16 := Aside0.mk (Kd.R_lower hR16 HB15.out.size); have HB16 := Aside0.mk (below_step HB15.out hb16); clear hR16 hb16))
    go_ret
    exact ⟨_, rfl, by rw [HPut.out, hf.out, if_neg (by decide)]; exact HR16.out, HB16.out⟩
end Go.Proofs.Ythcoiabgemclbaa.PD
/- span.ahead's iterator: the spans that begin ahead of a time, one after another. -/
namespace Go.Proofs.Ythcoiabgemclbaa.PD
open Go.RowKit Go.Shelf Go.Proofs.YthcoiabgemclbaaW.PrintWords Go.Proofs.YthcoiabgemclbaaW.PrintLast Go.Proofs.YthcoiabgemclbaaW.PrintMore
set_option linter.unusedVariables false
set_option linter.unusedSimpArgs false
theorem wide_fn (f : FuncId) : Fence.wide.fn f = True := rfl
theorem wide_depth : Fence.wide.depth = none := rfl
attribute [local go_sem] Oper.semAt_some wide_fn wide_depth isSome_setCell
theorem below_grown {W W' : World} (h : Below W.heap.size W W') : W.grownBy W' none := ⟨h.os, h.tape, h.output, h.size, fun k hk _ => h.block k hk⟩
def intN : Value → Nat | .int _ q => q.toNat | _ => 0
def keepB2 (n₀ Bn Bt : Nat) (A B : World) : Prop := Below n₀ A B ∧ B.cell? ⟨Bn, 0, none⟩ = A.cell? ⟨Bn, 0, none⟩ ∧ B.cell? ⟨Bt, 0, none⟩ = A.cell? ⟨Bt, 0, none⟩
theorem ahead_take (l : List S25) (t : Int) (i : Nat) (hi : i ≤ l.length) (h : ∀ j, (hj : j < l.length) → j < i → l[j].f1 < t) : l.take i <+: aheadL l t := by
  unfold aheadL
  induction l generalizing i with
  | nil => simp
  | cons a r ih =>
    cases i with
    | zero => exact List.nil_prefix
    | succ i =>
      have h0 := h 0 (by simp) (by omega)
      simp only [List.getElem_cons_zero] at h0
      rw [List.take_succ_cons, List.takeWhile_cons_of_pos (by simpa using h0)]
      exact List.cons_prefix_cons.2 ⟨rfl, ih i (by simpa using hi) (fun j hj hji => by have := h (j + 1) (by simp; omega) (by omega); simpa using this)⟩
theorem ahead_stop (l : List S25) (t : Int) (i : Nat) (hi : i < l.length) (h : ∀ j, (hj : j < l.length) → j < i → l[j].f1 < t) (hx : ¬ l[i].f1 < t) : aheadL l t = l.take i := by
  unfold aheadL
  induction l generalizing i with
  | nil => simp at hi
  | cons a r ih =>
    cases i with
    | zero =>
      simp only [List.getElem_cons_zero] at hx
      rw [List.takeWhile_cons_of_neg (by simpa using hx)]
      rfl
    | succ i =>
      have h0 := h 0 (by simp) (by omega)
      simp only [List.getElem_cons_zero] at h0
      rw [List.take_succ_cons, List.takeWhile_cons_of_pos (by simpa using h0)]
      congr 1
      exact ih i (by simpa using hi) (fun j hj hji => by have := h (j + 1) (by simp; omega) (by omega); simpa using this) (by simpa using hx)
theorem ahead_all (l : List S25) (t : Int) (h : ∀ j, (hj : j < l.length) → l[j].f1 < t) : aheadL l t = l := by
  unfold aheadL
  induction l with
  | nil => rfl
  | cons a r ih =>
    have h0 := h 0 (by simp)
    simp only [List.getElem_cons_zero] at h0
    rw [List.takeWhile_cons_of_pos (by simpa using h0)]
    congr 1
    exact ih (fun j hj => by have := h (j + 1) (by simp; omega); simpa using this)
set_option maxRecDepth 100000 in
set_option maxHeartbeats 4000000 in
theorem ahead_in (n : Nat) (hn : 1 ≤ n) (l Bn Bt : Nat) (w0 : World) (A : Option Addr) (c : Nat) (im : List S25) (t : Int) (J Jx : List S25 → World → Prop) (hC : Kd.C k25 w0 A im.length im) (hcc : im.length ≤ c)
    (hY : ∀ pre x W, J pre W → pre.length < (aheadL im t).length → YieldAt Fence.wide (n - 1) Try.prog l #[.agg #[.string x.f0, .int .i64 x.f1, .int .i64 x.f2]] W fun e W' =>
      (e = .returned (.bool true) ∧ J (pre ++ [x]) W' ∧ keepB2 w0.heap.size Bn Bt W W') ∨ (e = .returned (.bool false) ∧ Jx (pre ++ [x]) W'))
    (W : World) (hJ : AbidesFrom W.heap.size J) (hBn : W.cell? ⟨Bn, 0, none⟩ = some (.slice A im.length c)) (hBt : W.cell? ⟨Bt, 0, none⟩ = some (.int .i64 t)) (hB : Below w0.heap.size w0 W) (h0 : J [] W) :
    CallsIn Fence.wide n Try.prog 52 #[.func (.yield l) #[] #[], .pointer (some ⟨Bn, 0, none⟩), .pointer (some ⟨Bt, 0, none⟩)] W fun e W' => (∃ v, e = .returned v) ∧
      ((∃ ys, ys = aheadL im t ∧ J ys W') ∨ (∃ pre, pre <+: aheadL im t ∧ Jx pre W')) := by
  refine callsIn_of_wp Try.func52 rfl trivial ?_ rfl
  simp only [Try.ntmps52, List.size_toArray, List.length_cons, List.length_nil, Nat.reduceAdd, Nat.reduceSub, Array.replicate_succ, Array.replicate_zero, List.push_toArray, List.append_toArray, List.nil_append, List.cons_append]
  have HC := Aside0.mk hC
  have HCC := Aside0.mk hcc
  have hml : im.length ≤ 9223372036854775807 := by have := hC.2.1; unfold maxLen at this; omega
  clear hC hcc
  have HY := Aside0.mk hY
  clear hY
  have H0 := Aside0.mk h0
  clear h0
  have HB := Aside0.mk hB
  clear hB
  have HJ := Aside0.mk hJ
  clear hJ
  have hgrow : ∀ pre X Y, J pre X → Below X.heap.size X Y → J pre Y := fun pre X Y h hb => HJ.out pre X Y none h (below_grown hb) (fun r e => by cases e)
  have HG := Aside0.mk hgrow
  clear hgrow
  gi_wp2
  refine wpIn_wide.2 (wp_scope_straight ((wpIn_wide (n := n)).1 ?_))
  refine wpIn_seq_k (fun K hK => wpIn_label (hK _ _ ?_))
  gi_wp2
  gi_loopw [8] (fun p wr => ∃ (i : Nat), p = .int .i64 (i : Int) ∧ i ≤ im.length ∧ Aside0 (∀ j, (hj : j < im.length) → j < i → im[j].f1 < t) ∧ Aside0 (J (im.take i) wr) ∧ wr.cell? ⟨Bn, 0, none⟩ = some (.slice A im.length c) ∧ wr.cell? ⟨Bt, 0, none⟩ = some (.int .i64 t) ∧ Aside0 (Below w0.heap.size w0 wr))
    (fun p _ => im.length - intN p)
  case atStart =>
    exact ⟨0, rfl, Nat.zero_le _, ⟨fun j _ hj => absurd hj (Nat.not_lt_zero _)⟩, ⟨H0.out⟩, hBn, hBt, HB⟩
  case round =>
    obtain ⟨i, rfl, hi2, hlt2, HJ2, hcB, hcT, HB2⟩ := hrel
    by_cases hlt : i < im.length
    · have hlt0 : decide ((i : Int) < (im.length : Int)) = true := decide_eq_true (by omega)
      obtain ⟨ad, e, hx0, hx1, hx2⟩ := at_T25 HC.out (i : Int) (by omega) (by omega)
      subst e
      replace hx0 := (HB2.out.cell (World.block_lt_of_cell? w0 _ hx0)).trans hx0
      replace hx1 := (HB2.out.cell (World.block_lt_of_cell? w0 _ hx1)).trans hx1
      replace hx2 := (HB2.out.cell (World.block_lt_of_cell? w0 _ hx2)).trans hx2
      have hget : rd_T25 im (i : Int) = im[i] := by simp [rd_T25, hlt]
      rw [hget] at hx0 hx1 hx2
      simp only [Int.toNat_natCast] at hx0 hx1 hx2
      obtain ⟨x, hx⟩ : ∃ x, im[i] = x := ⟨_, rfl⟩
      rw [hx] at hx0 hx1 hx2
      have HX := Aside0.mk hx
      clear hx hget
      have hal := below_alloc (Below.refl wr.heap.size wr) (.cells #[.string x.f0, .int .i64 x.f1, .int .i64 x.f2] 25)
      have hcT2 := (hal.cell (World.block_lt_of_cell? _ _ hcT)).trans hcT
      have hcB2 := (hal.cell (World.block_lt_of_cell? _ _ hcB)).trans hcB
      have HJ3 := Aside0.mk (HG.out _ _ _ HJ2.out hal)
      have HB3 := Aside0.mk (HB2.out.trans (hal.mono HB2.out.size))
      clear hal
      by_cases hxt : x.f1 < t
      · have hge : decide (t ≤ x.f1) = false := decide_eq_false (by omega)
        have hge2 : decide (x.f1 ≥ t) = false := decide_eq_false (by omega)
        have hall : ∀ j, (hj : j < im.length) → j < i + 1 → im[j].f1 < t := fun j hj hji => by
          rcases Nat.lt_or_ge j i with h | h
          · exact hlt2.out j hj h
          · obtain rfl : j = i := by omega
            rw [HX.out]; exact hxt
        have hpx := ahead_take im t (i + 1) hlt hall
        have htk : im.take (i + 1) = im.take i ++ [x] := by rw [List.take_add_one, List.getElem?_eq_getElem hlt, HX.out]; rfl
        have hlen : (im.take i).length < (aheadL im t).length := by
          have := hpx.length_le
          rw [htk, List.length_append] at this
          simp at this
          simp
          omega
        have HPX := Aside0.mk hpx
        have HTK := Aside0.mk htk
        have HALL := Aside0.mk hall
        clear hpx htk hall
        obtain ⟨fn, tmps, assign, body, hy, hR⟩ := HY.out (im.take i) x (wr.alloc (.cells #[.string x.f0, .int .i64 x.f1, .int .i64 x.f2] 25)) HJ3.out hlen
        have HRr := Aside0.mk hR
        clear hR hlen
        gi_wp2
        refine HRr.out.mono ?_
        rintro e W4 (⟨rfl, hJ4, hk4⟩ | ⟨rfl, hJx4⟩)
        · have hcB4 := hk4.2.1.trans hcB2
          have hcT4 := hk4.2.2.trans hcT2
          have hw : IntKind.i64.wrap ((i : Int) + 1) = ((i + 1 : Nat) : Int) := by rw [IntKind.wrap_i64]; omega
          gi_wp2
          go_roundw
          case rel => exact ⟨i + 1, by simp, hlt, HALL, ⟨by rw [HTK.out]; exact hJ4⟩, hcB4, hcT4, ⟨HB3.out.trans hk4.1⟩⟩
          case measure => show im.length - ((i : Int) + 1).toNat < im.length - (i : Int).toNat; omega
        · gi_wp2
          simp only [Exit.noGoto]
          refine bodyPost_ret (results_none rfl _ _ _) rfl ?_
          refine ⟨⟨_, rfl⟩, .inr ⟨im.take i ++ [x], ?_, hJx4⟩⟩
          have := HPX.out
          rwa [HTK.out] at this
      · have hge : decide (t ≤ x.f1) = true := decide_eq_true (by omega)
        have hge2 : decide (x.f1 ≥ t) = true := decide_eq_true (by omega)
        gi_wp2
        go_end0
        refine ⟨⟨_, rfl⟩, .inl ⟨im.take i, ?_, HJ3.out⟩⟩
        exact (ahead_stop im t i hlt hlt2.out (by rw [HX.out]; omega)).symm
    · have hlt0 : decide ((i : Int) < (im.length : Int)) = false := decide_eq_false (by omega)
      gi_wp2
      simp only [Exit.noGoto]
      go_end0
      obtain rfl : i = im.length := by omega
      refine ⟨⟨_, rfl⟩, .inl ⟨im.take im.length, ?_, HJ2.out⟩⟩
      rw [List.take_of_length_le (Nat.le_refl _)]
      exact (ahead_all im t (fun j hj => hlt2.out j hj hj)).symm
end Go.Proofs.Ythcoiabgemclbaa.PD
/- slices.Sort at the names that Over has gathered. -/
namespace Go.Proofs.Ythcoiabgemclbaa.PD
open Go.RowKit Go.Shelf Go.Sort Go.Proofs.YthcoiabgemclbaaW.PrintWords Go.Proofs.YthcoiabgemclbaaW.PrintLast Go.Proofs.YthcoiabgemclbaaW.PrintMore
set_option linter.unusedVariables false
set_option linter.unusedSimpArgs false
theorem insB_perm (x : ByteArray) (l : List ByteArray) : (insB x l).Perm (x :: l) := by
  induction l with
  | nil => exact List.Perm.refl _
  | cons y r ih =>
    unfold insB
    split
    · exact List.Perm.refl _
    · exact (ih.cons y).trans (List.Perm.swap x y r)
theorem sortB_perm (l : List ByteArray) : (sortB l).Perm l := by
  unfold sortB
  induction l with
  | nil => exact List.Perm.refl _
  | cons x r ih => exact (insB_perm x _).trans (ih.cons x)
theorem insB_sorted (x : ByteArray) (l : List ByteArray) (h : l.Pairwise (fun a b => Op.bytesLess b.toList a.toList = false)) : (insB x l).Pairwise (fun a b => Op.bytesLess b.toList a.toList = false) := by
  induction l with
  | nil => simp [insB]
  | cons y r ih =>
    rw [List.pairwise_cons] at h
    unfold insB
    cases hxy : Op.bytesLess x.toList y.toList with
    | true =>
      simp only [if_true]
      rw [List.pairwise_cons, List.pairwise_cons]
      refine ⟨fun z hz => ?_, h⟩
      rcases List.mem_cons.1 hz with rfl | hz
      · exact bless_asymm hxy
      · cases hzx : Op.bytesLess z.toList x.toList with
        | false => rfl
        | true => have := bless_trans hzx hxy; rw [h.1 z hz] at this; cases this
    | false =>
      simp only [Bool.false_eq_true, if_false]
      rw [List.pairwise_cons]
      refine ⟨fun z hz => ?_, ih h.2⟩
      rcases List.mem_cons.1 ((insB_perm x r).subset hz) with rfl | hz
      · exact hxy
      · exact h.1 z hz
theorem sortB_sorted (l : List ByteArray) : (sortB l).Pairwise (fun a b => Op.bytesLess b.toList a.toList = false) := by
  unfold sortB
  induction l with
  | nil => exact List.Pairwise.nil
  | cons x r ih => exact insB_sorted x _ ih
/-- A sorted row of names is one alone. -/
theorem sorted_one {l m : List ByteArray} (hp : l.Perm m) (h1 : l.Pairwise (fun a b => Op.bytesLess b.toList a.toList = false)) (h2 : m.Pairwise (fun a b => Op.bytesLess b.toList a.toList = false)) : l = m :=
  List.Perm.eq_of_pairwise (le := fun a b => Op.bytesLess b.toList a.toList = false) (fun a b _ _ h3 h4 => toList_inj (bless_total h4 h3)) h1 h2 hp
theorem merge_sortB (l : List ByteArray) : ((l.map fun b => b.data.toList).mergeSort fun x y => decide (x ≤ y)) = (sortB l).map fun b => b.data.toList := by
  refine List.Perm.eq_of_pairwise (le := fun x y => decide (x ≤ y) = true) ?_ ?_ ?_ ((List.mergeSort_perm _ _).trans ((sortB_perm l).symm.map _))
  · intro a b _ _ h1 h2
    simp only [decide_eq_true_eq] at h1 h2
    exact List.le_antisymm h1 h2
  · refine List.pairwise_mergeSort ?_ ?_ _
    · intro a b c h1 h2
      simp only [decide_eq_true_eq] at *
      exact List.le_trans h1 h2
    · intro a b
      simp only [Bool.or_eq_true, decide_eq_true_eq]
      exact List.le_total a b
  · rw [List.pairwise_map]
    refine (sortB_sorted l).imp fun {a b} h => ?_
    rw [bytesLess_eq, Lib.toList_data, Lib.toList_data] at h
    simp only [decide_eq_false_iff_not] at h
    simpa using h
theorem encStr_data (b : ByteArray) : encStr b.data.toList = .string b := by
  cases b
  simp [encStr]
theorem sortB_calls (base : Nat) (ok : Nat → Prop) (v : Value) (l : List ByteArray) (w : World) (hr : Kd.R Kd.string 9 w base ok v l) (hbig : l.length < 4611686018427387904) :
    Calls Try.prog 27 #[v] w fun e w' => e = .returned (.tuple #[]) ∧ Kd.R Kd.string 9 w' base ok v (sortB l) ∧ w.grownBy w' v.ownBlock := by
  have hok := hr.1
  have hll : (sortB l).length = l.length := (sortB_perm l).length_eq
  rcases Nat.eq_zero_or_pos l.length with h0 | h0
  · have hl := List.eq_nil_of_length_eq_zero h0
    subst hl
    obtain ⟨A, c, rfl⟩ := Kd.R_slice hr
    refine (Try.slices_Sort_string_none A c w).mono ?_
    rintro e w' ⟨rfl, rfl⟩
    exact ⟨rfl, hr, ⟨rfl, rfl, rfl, Nat.le_refl _, fun _ _ _ => rfl⟩⟩
  · have ho := Kd.own_of_R hr
    rcases ho.2 with ⟨hv, hz⟩ | ⟨g, cap, cur, hv, hg, hcell, h1, h2, h3, h4⟩
    · omega
    subst hv
    rw [Nat.mul_one] at h3 h4
    have e1 : (l.map fun b => b.data.toList).map encStr = encs Value.string l := by
      unfold encs
      rw [List.map_map]
      exact List.map_congr_left fun b _ => encStr_data b
    have hH := holds_of_block (ss := l.map fun b => b.data.toList) hcell (by rw [e1, List.length_map]; exact h4)
    have hcon := Try.slices_Sort_string g 0 cap (l.map fun b => b.data.toList) w hH (Array.getElem?_eq_some_iff.1 hcell).1 (by simpa using hbig)
    rw [List.length_map] at hcon
    refine hcon.mono ?_
    rintro e w' ⟨rfl, n, os, rfl⟩
    rw [merge_sortB]
    have hg3 := grownBy_sorted (w := w) (g := g) (n := n) (os := os) ((sortB l).map fun b => b.data.toList).toArray
    have hh := heap_sorted (n := n) (os := os) ((sortB l).map fun b => b.data.toList).toArray hcell
    refine ⟨rfl, Kd.R_of_own ⟨by simp [encs], .inr ⟨g, cap, _, by rw [hll], hg, hh, by omega, h2, by simp [putCells, h3], ?_⟩⟩ hok, hg3⟩
    have := take_putCells cur ((sortB l).map fun b => b.data.toList) (by rw [List.length_map]; omega)
    rw [List.length_map] at this
    rw [Nat.mul_one, this]
    unfold encs
    rw [List.map_map]
    exact List.map_congr_left fun b _ => encStr_data b
end Go.Proofs.Ythcoiabgemclbaa.PD
/- span.Over. -/
namespace Go.Proofs.Ythcoiabgemclbaa.PD
open Go.RowKit Go.Shelf Go.Proofs.YthcoiabgemclbaaW.PrintWords Go.Proofs.YthcoiabgemclbaaW.PrintLast Go.Proofs.YthcoiabgemclbaaW.PrintMore
set_option linter.unusedVariables false
set_option linter.unusedSimpArgs false
attribute [local go_sem] Oper.semAt_some wide_fn wide_depth isSome_setCell
theorem ahead_stops (n : Nat) (hn : 1 ≤ n) (Bn Bt : Nat) (w0 w : World) (A : Option Addr) (c : Nat) (im : List S25) (t : Int) (hC : Kd.C k25 w0 A im.length im) (hcc : im.length ≤ c) (hlt : Bn < w.heap.size) (hlt2 : Bt < w.heap.size) (hB : Below w0.heap.size w0 w)
    (hc : w.cell? ⟨Bn, 0, none⟩ = some (.slice A im.length c)) (ht : w.cell? ⟨Bt, 0, none⟩ = some (.int .i64 t)) :
    SeqStopsK Fence.wide n Try.prog 52 #[.pointer (some ⟨Bn, 0, none⟩), .pointer (some ⟨Bt, 0, none⟩)] (fun x : S25 => #[.agg #[.string x.f0, .int .i64 x.f1, .int .i64 x.f2]]) (keepB2 w0.heap.size Bn Bt) (fun ys => ys = aheadL im t) (fun pre => pre <+: aheadL im t) (aheadL im t).length w := fun l J Jx W hW hJ _ hY h0 => by
  refine (ahead_in n hn l Bn Bt w0 A c im t J Jx hC hcc hY W hJ ((hW.cell (p := ⟨Bn, 0, none⟩) hlt).trans hc) ((hW.cell (p := ⟨Bt, 0, none⟩) hlt2).trans ht) (hB.trans (hW.mono hB.size)) h0).mono ?_
  rintro e W' ⟨h1, ⟨ys, h2, h3⟩ | ⟨ys, h2, h3⟩⟩
  · exact ⟨h1, .inl ⟨ys, h2, h3⟩⟩
  · exact ⟨h1, .inr ⟨ys, h2, h3⟩⟩
theorem keepB2_t {n₀ Bn Bt : Nat} {A B C : World} (h : keepB2 n₀ Bn Bt A B) (k : keepB2 n₀ Bn Bt B C) : keepB2 n₀ Bn Bt A C := ⟨h.1.trans k.1, k.2.1.trans h.2.1, k.2.2.trans h.2.2⟩
theorem keepB2_b {n₀ Bn Bt : Nat} {w : World} (hn : n₀ ≤ w.heap.size) (hB : Bn < w.heap.size) (hT : Bt < w.heap.size) (W : World) (l : Nat) (o o' : Obj) (hl : w.heap.size ≤ l) (h : W.heap[l]? = some o) (h1 : o.isCells = false) (h2 : o.isWalk = false) : keepB2 n₀ Bn Bt W (W.putObj l o') :=
  ⟨belowK_b hn W l o o' hl h h1 h2, World.cell?_of_block (World.putObj_heap_other (by show Bn ≠ l; omega)), World.cell?_of_block (World.putObj_heap_other (by show Bt ≠ l; omega))⟩
theorem ahead26_in (n : Nat) (A : Option Addr) (m c : Nat) (t : Int) (w : World) :
    CallsIn Fence.wide n Try.prog 26 #[.slice A m c, .int .i64 t] w fun e w' => e = .returned (.func (.func 52) #[] #[.pointer (some ⟨w.heap.size, 0, none⟩), .pointer (some ⟨w.heap.size + 1, 0, none⟩)]) ∧ w' = (w.alloc (.cells #[.slice A m c] 22)).alloc (.cells #[.int .i64 t] 2) := by
  refine callsIn_of_wp Try.func26 rfl trivial ?_ rfl
  simp only [Try.ntmps26, List.size_toArray, List.length_cons, List.length_nil, Nat.reduceAdd, Nat.reduceSub, Array.replicate_succ, Array.replicate_zero, List.push_toArray, List.append_toArray, List.nil_append, List.cons_append]
  gi_wp2
  go_ret
  exact ⟨rfl, rfl⟩
def nmB (fr : Int) (pre : List S25) : List ByteArray := (pre.filter fun x => decide (fr ≤ x.f2)).map fun x => x.f0
theorem nmB_snoc (fr : Int) (pre : List S25) (x : S25) : nmB fr (pre ++ [x]) = if fr ≤ x.f2 then nmB fr pre ++ [x.f0] else nmB fr pre := by
  unfold nmB
  rw [List.filter_append, List.map_append]
  by_cases h : fr ≤ x.f2 <;> simp [h]
def OverI (w : World) (S : Nat) (A0 : Option Addr) (c0 n0 : Nat) (fr tm : Int) (pre : List S25) (W : World) : Prop :=
  ((((Boxed W S 2 (.int .i64 fr) ∧ Boxed W (S + 2) 22 (.slice A0 n0 c0)) ∧ Boxed W (S + 3) 2 (.int .i64 tm)) ∧ (∃ v, Boxed W (S + 1) 30 v ∧ W.ownsRow (S + 1) 9 1 v (nmB fr pre).length (encs Value.string (nmB fr pre)) ∧ True)) ∧ Below w.heap.size w W)
theorem overI_own (w : World) (S : Nat) (A0 : Option Addr) (c0 n0 : Nat) (fr tm : Int) (B : Nat) (hB : w.heap.size ≤ B) : OwnFrom B (OverI w S A0 c0 n0 fr tm) :=
  OwnFrom.and (OwnFrom.and (OwnFrom.and (OwnFrom.and (Own.from (boxed_own _ _ _) _) (Own.from (boxed_own _ _ _) _)) (Own.from (boxed_own _ _ _) _)) (Own.from (holdsRow_own (S + 1) (S + 1) 30 9 1 (fun pre : List S25 => (nmB fr pre).length) (fun pre => encs Value.string (nmB fr pre)) (fun _ _ => True)) _)) (ownFrom_below (Nat.le_refl _) hB)
def span_Over.f (l0 : List (S25)) (a1 : Int) (a2 : Int) : Option (List ByteArray) := if l0.length < 4398046511104 then some (overL l0 a1 a2) else none
theorem over_len (l : List S25) (a b : Int) : (nmB a (aheadL l b)).length ≤ l.length := by
  unfold nmB aheadL
  rw [List.length_map]
  exact Nat.le_trans (List.length_filter_le _ _) (List.takeWhile_sublist _).length_le
set_option maxRecDepth 100000 in
set_option maxHeartbeats 8000000 in
theorem span_Over.calls (A0 : Option Addr) (c0 : Nat) (l0 : List (S25)) (a1 : Int) (a2 : Int) (r : List ByteArray) (w : World) (hr0 : Kd.C k25 w A0 l0.length l0) (hc0 : l0.length ≤ c0) (h : span_Over.f l0 a1 a2 = some r) :
    Calls Try.prog 10 #[.slice A0 l0.length c0, .int .i64 a1, .int .i64 a2] w fun e w' => ∃ v0_ : Value, e = .returned (v0_) ∧ Kd.R Kd.string 9 w' w.heap.size (fun _ => True) v0_ r ∧ Below w.heap.size w w' := by
  unfold span_Over.f at h
  split at h
  case isFalse => cases h
  rename_i hlim
  obtain rfl := Option.some.inj h
  clear h
  have HR0 := Aside0.mk hr0
  have HC0 := Aside0.mk hc0
  have HLim := Aside0.mk hlim
  clear hr0 hc0 hlim
  refine (callsIn_wide (n := 50)).1 ?_
  refine callsIn_of_wp_marks Try.func10 rfl trivial ?_ rfl
  simp only [Try.ntmps10, List.size_toArray, List.length_cons, List.length_nil, Nat.reduceAdd, Nat.reduceSub, Array.replicate_succ, Array.replicate_zero, List.push_toArray, List.append_toArray, List.nil_append, List.cons_append]
  gi_wp2_with (gi_at_call 26; refine (ahead26_in (50 - 1) _ _ _ _ _).mono ?_; rintro e w' ⟨rfl, rfl⟩)
  have b0 := (((Boxed.new w 2 (.int .i64 a1)).alloc (.cells #[.slice none 0 0] 30)).alloc (.cells #[.slice A0 l0.length c0] 22)).alloc (.cells #[.int .i64 a2] 2)
  have b1 := ((Boxed.new (w.alloc (.cells #[.int .i64 a1] 2)) 30 (.slice none 0 0)).alloc (.cells #[.slice A0 l0.length c0] 22)).alloc (.cells #[.int .i64 a2] 2)
  have b2 := (Boxed.new ((w.alloc (.cells #[.int .i64 a1] 2)).alloc (.cells #[.slice none 0 0] 30)) 22 (.slice A0 l0.length c0)).alloc (.cells #[.int .i64 a2] 2)
  have b3 := Boxed.new (((w.alloc (.cells #[.int .i64 a1] 2)).alloc (.cells #[.slice none 0 0] 30)).alloc (.cells #[.slice A0 l0.length c0] 22)) 2 (.int .i64 a2)
  simp only [World.size_alloc] at b0 b1 b2 b3
  have hB0 : Below w.heap.size w ((((w.alloc (.cells #[.int .i64 a1] 2)).alloc (.cells #[.slice none 0 0] 30)).alloc (.cells #[.slice A0 l0.length c0] 22)).alloc (.cells #[.int .i64 a2] 2)) := below_alloc (below_alloc (below_alloc (below_alloc (Below.refl _ _) _) _) _) _
  have hz : ((((w.alloc (.cells #[.int .i64 a1] 2)).alloc (.cells #[.slice none 0 0] 30)).alloc (.cells #[.slice A0 l0.length c0] 22)).alloc (.cells #[.int .i64 a2] 2)).heap.size = w.heap.size + 4 := by simp
  obtain ⟨V, hV⟩ : ∃ V, (((w.alloc (.cells #[.int .i64 a1] 2)).alloc (.cells #[.slice none 0 0] 30)).alloc (.cells #[.slice A0 l0.length c0] 22)).alloc (.cells #[.int .i64 a2] 2) = V := ⟨_, rfl⟩
  rw [hV] at b0 b1 b2 b3 hB0 hz ⊢
  clear hV
  simp only [Nat.add_assoc, Nat.reduceAdd] at b0 b1 b2 b3 ⊢
  obtain ⟨S, hS⟩ : ∃ S, w.heap.size = S := ⟨_, rfl⟩
  rw [hS] at b0 b1 b2 b3 hz ⊢
  obtain ⟨i0, hi, hz0, hz1', hz2⟩ := info_parts info9
  refine wpIn_rangeFunc_ownH rfl (by omega) (gf := 52) (lb := #[.pointer (some ⟨S + 2, 0, none⟩), .pointer (some ⟨S + 3, 0, none⟩)]) rfl trivial (enters_of Try.func52 (by kernel_rfl) rfl)
    (ahead_stops (50 - 1) (by omega) (S + 2) (S + 3) w V A0 c0 l0 a2 HR0.out HC0.out (by omega) (by omega) hB0 b2.cell b3.cell) keepB2_t (keepB2_b (by omega) (by omega) (by omega)) (Below.refl _ _) (fun _ => rfl)
    (OverI w S A0 c0 l0.length a1 a2)
    (fun _ _ _ => False)
    (overI_own w S A0 c0 l0.length a1 a2 _ (by omega)) (fun _ _ _ _ _ hs _ _ => hs)
    ⟨⟨⟨⟨b0, b2⟩, b3⟩, ⟨_, b1, World.ownsRow_nil _ _ _ _, trivial⟩⟩, hB0⟩
    (fun x a' W => ∃ b, a' = { tmps := #[.slice A0 l0.length c0, .int .i64 a1, .int .i64 a2, undef, .pointer (some ⟨S, 0, none⟩), undef, .slice none 0 0, .pointer (some ⟨S + 1, 0, none⟩), .pointer (some ⟨b, 0, none⟩), .slice A0 l0.length c0, .int .i64 a2, .func (.func 52) #[] #[.pointer (some ⟨S + 2, 0, none⟩), .pointer (some ⟨S + 3, 0, none⟩)], .agg #[.string x.f0, .int .i64 x.f1, .int .i64 x.f2], undef, undef, undef, undef, undef, undef, undef, undef, undef, undef, undef, undef], defers := [] } ∧ W.heap[b]? = some (.cells #[.string x.f0, .int .i64 x.f1, .int .i64 x.f2] 25 (0, 0)))
    ?hAx ?assign ?body ?done ?stop
  case hAx =>
    rintro x a' s X Y row ⟨b, e, hb⟩ hg hr
    exact ⟨b, e, (hg.block b (blk_lt hb) (fun e => by obtain ⟨_, o, ho, h0⟩ := hr b e.symm; rw [hb] at ho; cases ho; cases h0)).trans hb⟩
  case assign =>
    intro l pre x W K hI hK
    gi_wp2
    refine hK _ _ ⟨by simp, fun k o hk ho hc => ?_⟩ ⟨?_, ?_, ?_⟩ ?_ ⟨W.heap.size, rfl, heap_alloc_new _ _⟩
    · exact blk_alloc ho _
    · exact (Below.refl _ W).alloc hI.2.size _
    · exact (hI.1.1.1.2.alloc _).cell.trans hI.1.1.1.2.cell.symm
    · exact (hI.1.1.2.alloc _).cell.trans hI.1.1.2.cell.symm
    · exact (overI_own w S A0 c0 l0.length a1 a2 V.heap.size (by omega)).alloc _ hI
  case body =>
    rintro l pre x a' W hl hlr ⟨⟨⟨⟨h0, h2⟩, h3⟩, ⟨v, h1, hrow, -⟩⟩, hB⟩ ⟨b, rfl, hb⟩ hlt
    obtain ⟨A1, c1, rfl⟩ := own_slice hrow
    have hx0 : W.cell? ⟨b, 0, none⟩ = some (.string x.f0) := (blk_cell hb 0).trans rfl
    have hx2 : W.cell? ⟨b, 2, none⟩ = some (.int .i64 x.f2) := (blk_cell hb 2).trans rfl
    have cc0 := h0.cell
    have cc1 := h1.cell
    by_cases hk : a1 ≤ x.f2
    · have hd : decide (x.f2 ≥ a1) = true := decide_eq_true hk
      have hd2 : decide (a1 ≤ x.f2) = true := decide_eq_true hk
      have hlen : (nmB a1 pre).length < 4398046511104 := by
        have h5 : (nmB a1 pre).length ≤ pre.length := by unfold nmB; rw [List.length_map]; exact List.length_filter_le _ _
        have h6 : (aheadL l0 a2).length ≤ l0.length := (List.takeWhile_sublist _).length_le
        have := HLim.out
        omega
      gi_wp2_with (gi_at_builtin; refine wpListIn_append_own _ rfl _ _ 30 rfl (S + 1) 9 i0 (.string ⟨#[]⟩) 1 16 Try.underlying30 hi hz0 hz1' hz2 rfl (by decide) _ _ _ rfl (hrow.alloc _) ⟨W.heap.size, 0, none⟩ 1 1 [.string x.f0] rfl rfl (cell_one_new _ _ _) (by simp [Value.oneCell']) (by unfold maxLen; omega) (by omega) (by have := h1.lt; simp; omega) ?_; intro v' w1 hown' hgrow _; obtain ⟨g', cap', rfl⟩ := ownsRow_succ hown'; obtain ⟨hv1, hv2, hr2, hk2, hb2⟩ := h1.appended (by decide) hrow (by have := h1.lt; omega) (Nat.le_refl _) hown' hgrow; have h22 := ((h2.alloc _).kept hgrow (h2.not_row (by decide) hrow)).other (B' := S + 1) (by omega) (.slice (some ⟨g', 0, none⟩) ((nmB a1 pre).length + 1) cap'); have h32 := ((h3.alloc _).kept hgrow (h3.not_row (by decide) hrow)).other (B' := S + 1) (by omega) (.slice (some ⟨g', 0, none⟩) ((nmB a1 pre).length + 1) cap'); have hc1 := hv1.cell; have hf1 := hv1.frozen)
      refine ⟨hk2.from _, ⟨hb2.mono (by omega), h22.cell.trans h2.cell.symm, h32.cell.trans h3.cell.symm⟩, ⟨⟨⟨(hb2.block S (by omega)).trans h0, h22⟩, h32⟩, ⟨_, hv2, ?_, trivial⟩⟩, hB.trans (hb2.mono (by omega))⟩
      rw [nmB_snoc, if_pos hk, List.length_append]
      have e : encs Value.string (nmB a1 pre ++ [x.f0]) = encs Value.string (nmB a1 pre) ++ [.string x.f0] := by simp [encs]
      rw [e]
      exact hr2
    · have hd : decide (x.f2 ≥ a1) = false := decide_eq_false hk
      have hd2 : decide (a1 ≤ x.f2) = false := decide_eq_false hk
      gi_wp2
      refine ⟨KeepsFrom.refl _ _, ⟨Below.refl _ _, rfl, rfl⟩, ⟨⟨⟨h0, h2⟩, h3⟩, ⟨_, h1, ?_, trivial⟩⟩, hB⟩
      rw [nmB_snoc, if_neg (by omega)]
      exact hrow
  case done =>
    rintro D ys W hD rfl ⟨⟨⟨⟨h0, h2⟩, h3⟩, ⟨v, h1, hrow, -⟩⟩, hB⟩ hK
    obtain ⟨A1, c1, rfl⟩ := own_slice hrow
    have cc1 := h1.cell
    have hRl : Kd.R Kd.string 9 W (S + 1) (fun _ => True) (.slice A1 (nmB a1 (aheadL l0 a2)).length c1) (nmB a1 (aheadL l0 a2)) := Kd.R_of_own hrow (fun _ _ => trivial)
    have HSo := Aside0.mk (sortB_calls (S + 1) (fun _ => True) _ _ W hRl (by have := over_len l0 a1 a2; have := HLim.out; omega))
    have hne : ∀ k, (Value.slice A1 (nmB a1 (aheadL l0 a2)).length c1).ownBlock = some k → S + 1 ≤ k := Kd.R_base hRl
    have hnk : some (S + 1) ≠ (Value.slice A1 (nmB a1 (aheadL l0 a2)).length c1).ownBlock := h1.not_row (by decide) hrow
    have hnD : some D ≠ (Value.slice A1 (nmB a1 (aheadL l0 a2)).length c1).ownBlock := fun e => by
      obtain ⟨cells, hc⟩ := Kd.R_typed hRl D e.symm
      rw [hK] at hc
      cases hc
    gi_wp2_with (gi_at_call 27; refine (callsIn_wide.2 HSo.out).mono ?_; rintro e w8 ⟨rfl, hR8, hg8⟩; have cc8 := (h1.kept hg8 hnk).cell; have HR8 := Aside0.mk hR8; have HG8 := Aside0.mk hg8; clear hR8 hg8)
    have hK8 := (HG8.out.block D (Array.getElem?_eq_some_iff.1 hK).1 hnD).trans hK
    have hB8 : Below w.heap.size w w8 := hB.trans ⟨HG8.out.os, HG8.out.tape, HG8.out.output, HG8.out.size, fun k hk => HG8.out.block k (Nat.lt_of_lt_of_le hk hB.size) (fun e => by have := hne k e.symm; omega)⟩
    refine ⟨by simp, .inl ⟨_, _, rfl, run_takeDeferred hK8, ?_⟩⟩
    refine ⟨_, results_tmp rfl _ _ _, _, rfl, ?_, hB8.trans (belowK_b (w := V) (by omega) w8 D _ _ hD hK8 rfl rfl)⟩
    exact Kd.R_lower (base := S + 1) (Kd.R_of_own (ownsRow_putObj (Kd.own_of_R HR8.out) _ hK8 rfl) (fun _ _ => trivial)) (by omega)
  case stop =>
    rintro D c pre W _ _ h _
    exact h.elim
end Go.Proofs.Ythcoiabgemclbaa.PD
-- written by a program of this work (mk.sh, over the kit's print; stubs are proved by hand)
namespace Go.Proofs.Ythcoiabgemclbaa.PD
open Go.RowKit Go.Proofs.YthcoiabgemclbaaW.PrintWords Go.Proofs.YthcoiabgemclbaaW.PrintLast Go.Proofs.YthcoiabgemclbaaW.PrintMore
attribute [local go_sem] isSome_setCell max2_int min2_int max_two min_two max_three min_three max_four min_four   -- for this text's walks alone
set_option linter.unusedVariables false
set_option linter.unusedSimpArgs false

/-! ### almanacref08_Texts: function 17 -/
def almanacref08_Texts.l0 : Nat → List ByteArray → List ByteArray → Int → Option (Bool)
  | 0, _, _, _ => none
  | k + 1, x0, x1, x5 => if x5 < (x0.length : Int) then (if 0 ≤ x5 then (if x5 < (x1.length : Int) then (if (rdOf ByteArray.empty x0 x5).toList = (rdOf ByteArray.empty x1 x5).toList then (almanacref08_Texts.l0 k x0 x1 (wrap64 (x5 + 1))) else (some false)) else (none)) else (none)) else (some true)
def almanacref08_Texts.f (k : Nat) (l0 : List ByteArray) (l1 : List ByteArray) : Option (Bool) := if (l0.length : Int) = (l1.length : Int) then (almanacref08_Texts.l0 k l0 l1 0) else (some false)
theorem almanacref08_Texts.mono_l : ∀ k, (∀ y0 y1 y2, LeO (almanacref08_Texts.l0 k y0 y1 y2) (almanacref08_Texts.l0 (k + 1) y0 y1 y2))
  | 0 => fun _ _ _ r h => by simp [almanacref08_Texts.l0] at h
  | k + 1 => by
    have ih0 := almanacref08_Texts.mono_l k
    · intro y0 y1 y2
      unfold almanacref08_Texts.l0
      repeat' first
      | (with_reducible exact ih0 _ _ _)
      | (with_reducible exact LeO.refl _)
      | (with_reducible exact LeO.none _)
      | (with_reducible refine LeO.ite ?_ ?_)
      | (with_reducible refine LeO.bind ?_ (fun _ => ?_))
      | exact ih0 _ _ _
      | exact LeO.none _
      | refine LeO.ite ?_ ?_
      | refine LeO.bind ?_ (fun _ => ?_)
theorem almanacref08_Texts.mono : ∀ a0 a1 k, LeO (almanacref08_Texts.f k a0 a1) (almanacref08_Texts.f (k + 1) a0 a1) := by
  intro a0 a1 k
  have ih0 := almanacref08_Texts.mono_l k
  unfold almanacref08_Texts.f
  repeat' first
      | (with_reducible exact ih0 _ _ _)
      | (with_reducible exact LeO.refl _)
      | (with_reducible exact LeO.none _)
      | (with_reducible refine LeO.ite ?_ ?_)
      | (with_reducible refine LeO.bind ?_ (fun _ => ?_))
      | exact ih0 _ _ _
      | exact LeO.none _
      | refine LeO.ite ?_ ?_
      | refine LeO.bind ?_ (fun _ => ?_)
set_option maxHeartbeats 8000000 in
set_option maxRecDepth 100000 in
theorem almanacref08_Texts.calls (k : Nat) (A0 : Option Addr) (c0 : Nat) (l0 : List ByteArray) (A1 : Option Addr) (c1 : Nat) (l1 : List ByteArray) (r : Bool) (w : World) (hr0 : Kd.C Kd.string w A0 l0.length l0) (hc0 : l0.length ≤ c0) (hr1 : Kd.C Kd.string w A1 l1.length l1) (hc1 : l1.length ≤ c1) (h : almanacref08_Texts.f k l0 l1 = some r) :
    Calls Try.prog 17 #[.slice A0 l0.length c0, .slice A1 l1.length c1] w fun e w' => e = .returned (.bool r) ∧ Drawn0 w w' := by
  have HR0 := Aside0.mk hr0
  have HC0 := Aside0.mk hc0
  clear hr0 hc0
  have HR1 := Aside0.mk hr1
  have HC1 := Aside0.mk hc1
  clear hr1 hc1
  have H : (if (l0.length : Int) = (l1.length : Int) then (almanacref08_Texts.l0 k l0 l1 0) else (some false)) = some r := h
  clear h
  by_cases c3 : (l0.length : Int) = (l1.length : Int)
  · rw [if_pos c3] at H
    have c3b0 : ((l0.length : Int) == (l1.length : Int)) = true := beq_iff_eq.mpr c3
    have c3b1 : ((l0.length : Int) != (l1.length : Int)) = false := bne_eq_false_iff_eq.mpr c3
    have c3b2 : (l0.length == l1.length) = true := by first | simpa using c3 | (simp at c3 ⊢; omega)
    clear c3
    have H' := Aside0.mk H
    clear H
    go_enter Try.func17, Try.ntmps17
    go_wp2
    repeat (go_quiet (fail); try go_wp2)
    go_loopg [5] k (fun kq v5 w' => ∃ (x5_1 : Int), v5 = .int .i64 x5_1 ∧ Aside0 (almanacref08_Texts.l0 kq l0 l1 x5_1 = some r) ∧ Aside0 (kq ≤ k) ∧ Drawn0 w w')
    case atStart => exact ⟨(0), (by first | rfl | (simp; done) | (simp [*]; done)), H', ⟨Nat.le_refl _⟩, by repeat (first | exact Drawn0.refl _ | apply Drawn0.step)⟩
    case round =>
      clear H'
      try clear c1
      try clear p2
      try clear c3
      try clear c3b0
      try clear c3b1
      try clear c3b2
      obtain ⟨x5_1, rfl, HA, HK1, ⟨m1, rfl⟩⟩ := hrel
      cases gk with
      | zero => exact absurd HA.out (by simp [almanacref08_Texts.l0])
      | succ k1 =>
        have H := HA.out
        clear HA
        simp only [almanacref08_Texts.l0] at H
        by_cases c4 : x5_1 < (l0.length : Int)
        · rw [if_pos c4] at H
          have c4b0 : decide (x5_1 < (l0.length : Int)) = true := decide_eq_true c4
          clear c4
          by_cases c5 : 0 ≤ x5_1
          · rw [if_pos c5] at H
            have c5b0 : decide (0 ≤ x5_1) = true := decide_eq_true c5
            clear c5
            by_cases c6 : x5_1 < (l1.length : Int)
            · rw [if_pos c6] at H
              have c6b0 : decide (x5_1 < (l1.length : Int)) = true := decide_eq_true c6
              clear c6
              by_cases c7 : (rdOf ByteArray.empty l0 x5_1).toList = (rdOf ByteArray.empty l1 x5_1).toList
              · rw [if_pos c7] at H
                have c7b0 : ((rdOf ByteArray.empty l0 x5_1).toList == (rdOf ByteArray.empty l1 x5_1).toList) = true := beq_iff_eq.mpr c7
                have c7b1 : ((rdOf ByteArray.empty l0 x5_1).toList != (rdOf ByteArray.empty l1 x5_1).toList) = false := bne_eq_false_iff_eq.mpr c7
                clear c7
                have H' := Aside0.mk H
                clear H
                have p247 : 0 ≤ (x5_1 : Int) := of_decide_eq_true (by first | (with_reducible assumption) | assumption)
                have q247 : x5_1 < (l0.length : Int) := of_decide_eq_true (by first | (with_reducible assumption) | assumption)
                obtain ⟨ad247, e247, hx247_0⟩ := Kd.at_string HR0.out x5_1 p247 q247
                cases e247
                replace p247 := eq_true p247
                replace q247 := eq_true q247
                have p248 : 0 ≤ (x5_1 : Int) := of_decide_eq_true (by first | (with_reducible assumption) | assumption)
                have q248 : x5_1 < (l1.length : Int) := of_decide_eq_true (by first | (with_reducible assumption) | assumption)
                obtain ⟨ad248, e248, hx248_0⟩ := Kd.at_string HR1.out x5_1 p248 q248
                cases e248
                replace p248 := eq_true p248
                replace q248 := eq_true q248
                go_wp2
                repeat (go_quiet (fail); try go_wp2)
                go_roundg k1
                case measure => have := HK1.out; omega
                case rel => exact ⟨(wrap64 (x5_1 + 1)), (by first | rfl | (simp; done) | (simp [*]; done)), H', ⟨by have := HK1.out; omega⟩, by repeat (first | exact Drawn0.refl _ | apply Drawn0.step)⟩
              · rw [if_neg c7] at H
                have c7b0 : ((rdOf ByteArray.empty l0 x5_1).toList == (rdOf ByteArray.empty l1 x5_1).toList) = false := beq_eq_false_iff_ne.mpr c7
                have c7b1 : ((rdOf ByteArray.empty l0 x5_1).toList != (rdOf ByteArray.empty l1 x5_1).toList) = true := bne_iff_ne.mpr c7
                obtain rfl := Option.some.inj H
                have p247 : 0 ≤ (x5_1 : Int) := of_decide_eq_true (by first | (with_reducible assumption) | assumption)
                have q247 : x5_1 < (l0.length : Int) := of_decide_eq_true (by first | (with_reducible assumption) | assumption)
                obtain ⟨ad247, e247, hx247_0⟩ := Kd.at_string HR0.out x5_1 p247 q247
                cases e247
                replace p247 := eq_true p247
                replace q247 := eq_true q247
                have p248 : 0 ≤ (x5_1 : Int) := of_decide_eq_true (by first | (with_reducible assumption) | assumption)
                have q248 : x5_1 < (l1.length : Int) := of_decide_eq_true (by first | (with_reducible assumption) | assumption)
                obtain ⟨ad248, e248, hx248_0⟩ := Kd.at_string HR1.out x5_1 p248 q248
                cases e248
                replace p248 := eq_true p248
                replace q248 := eq_true q248
                go_wp2
                repeat (go_quiet (fail); try go_wp2)
                go_ret
                exact ⟨by first | rfl | (simp; done) | (simp [*]; done), by repeat (first | exact Drawn0.refl _ | apply Drawn0.step)⟩
            · rw [if_neg c6] at H
              exact absurd H (by simp)
          · rw [if_neg c5] at H
            exact absurd H (by simp)
        · rw [if_neg c4] at H
          have c4b0 : decide (x5_1 < (l0.length : Int)) = false := decide_eq_false c4
          clear c4
          obtain rfl := Option.some.inj H
          go_wp2
          repeat (go_quiet (fail); try go_wp2)
          go_ret
          exact ⟨by first | rfl | (simp; done) | (simp [*]; done), by repeat (first | exact Drawn0.refl _ | apply Drawn0.step)⟩
  · rw [if_neg c3] at H
    have c3b0 : ((l0.length : Int) == (l1.length : Int)) = false := beq_eq_false_iff_ne.mpr c3
    have c3b1 : ((l0.length : Int) != (l1.length : Int)) = true := bne_iff_ne.mpr c3
    have c3b2 : (l0.length == l1.length) = false := by first | simpa using c3 | (simp at c3 ⊢; omega)
    obtain rfl := Option.some.inj H
    go_enter Try.func17, Try.ntmps17
    go_wp2
    repeat (go_quiet (fail); try go_wp2)
    go_ret
    exact ⟨by first | rfl | (simp; done) | (simp [*]; done), by repeat (first | exact Drawn0.refl _ | apply Drawn0.step)⟩

end Go.Proofs.Ythcoiabgemclbaa.PD
/- A range over an iterator that may turn cells of its own between two rounds (a captured variable), and may call its rounds from within a loop of its own: the contract of such an iterator, and the walk of a loop over it. -/
namespace Go.Proofs.Ythcoiabgemclbaa.PD
open Go.RowKit
set_option linter.unusedVariables false
theorem kf_mono {B B' : Nat} {X Y : World} (h : KeepsFrom B X Y) (hB : B ≤ B') : KeepsFrom B' X Y := ⟨h.size, fun i o hi ho hc => h.same i o (by omega) ho hc⟩
theorem kf_put {B l : Nat} (W : World) (o : Obj) (h : l < B) : KeepsFrom B W (W.putObj l o) := ⟨by simp, fun i o' hi ho _ => (World.putObj_heap_other (by omega)).trans ho⟩
theorem kf_below {B : Nat} {X Y : World} (h : Below X.heap.size X Y) : KeepsFrom B X Y := ⟨h.size, fun i o _ ho _ => (h.block i (Array.getElem?_eq_some_iff.1 ho).1).trans ho⟩
theorem below_put {n₀ l : Nat} {W : World} (o : Obj) (h : n₀ ≤ l) : Below n₀ W (W.putObj l o) := ⟨rfl, rfl, rfl, by simp, fun k hk => World.putObj_heap_other (by omega)⟩
/-- Whatever the iterator may do between two rounds leaves J: it lays blocks, turns blocks of Z, and what from B on is no cells. -/
def OwnZ {β : Type} (Z : Nat → Prop) (B : Nat) (J : β → World → Prop) : Prop :=
  ∀ s X Y row, J s X → X.grownBy Y row → (∀ r, row = some r → Z r ∨ (B ≤ r ∧ ∃ o : Obj, X.heap[r]? = some o ∧ o.isCells = false)) → J s Y
theorem OwnZ.putObj {β : Type} {Z : Nat → Prop} {B : Nat} {I : β → World → Prop} (h : OwnZ Z B I) {s : β} {W : World} {l : Nat} {o : Obj} (o' : Obj) (hs : I s W) (hB : B ≤ l) (hl : W.heap[l]? = some o) (ho : o.isCells = false) : I s (W.putObj l o') :=
  h s W _ (some l) hs (grownBy_putObj' W l o') (fun r e => by cases e; exact .inr ⟨hB, o, hl, ho⟩)
theorem OwnZ.below {β : Type} {Z : Nat → Prop} {B : Nat} {I : β → World → Prop} (h : OwnZ Z B I) {s : β} {W W' : World} (hs : I s W) (hb : Below W.heap.size W W') : I s W' :=
  h s W W' none hs ⟨hb.os, hb.tape, hb.output, hb.size, fun k hk _ => hb.block k hk⟩ (fun r e => by cases e)
theorem ownZ_heap {β : Type} {Z : Nat → Prop} {B k : Nat} (o : β → Obj) (h : k < B) (hz : ¬ Z k) : OwnZ Z B (fun s W => W.heap[k]? = some (o s)) :=
  fun s X Y row hs hg hr => (hg.block k (Array.getElem?_eq_some_iff.1 hs).1 (fun e => by
    rcases hr k e.symm with h1 | h1
    · exact hz h1
    · have := h1.1; omega)).trans hs
theorem OwnZ.and {β : Type} {Z : Nat → Prop} {B : Nat} {I J : β → World → Prop} (h : OwnZ Z B I) (k : OwnZ Z B J) : OwnZ Z B (fun s W => I s W ∧ J s W) := fun s X Y row hs hg hr => ⟨h s X Y row hs.1 hg hr, k s X Y row hs.2 hg hr⟩
/-- What a round leaves alone: the blocks of Z. -/
def SameZ (Z : Nat → Prop) (X Y : World) : Prop := ∀ b, Z b → Y.heap[b]? = X.heap[b]?
theorem SameZ.trans {Z : Nat → Prop} {X Y W : World} (h : SameZ Z X Y) (k : SameZ Z Y W) : SameZ Z X W := fun b hb => (k b hb).trans (h b hb)
theorem sameZ_put {Z : Nat → Prop} {W : World} {l : Nat} (o : Obj) (hz : ¬ Z l) : SameZ Z W (W.putObj l o) := fun b hb => World.putObj_heap_other (fun e => hz (by rw [← e]; exact hb))
def SeqZ {α : Type} (P : Program) (g : Nat) (lb : Array Value) (encs : α → Array Value) (n₀ : Nat) (Z : Nat → Prop) (xs : List α) (w : World) : Prop :=
  ∀ (l : Nat) (J Jx : List α → World → Prop) (W : World), Below w.heap.size w W → OwnZ Z W.heap.size J → OwnZ Z W.heap.size Jx →
    (∀ pre x W1, J pre W1 → pre ++ [x] <+: xs → YieldAt Fence.wide 50 P l (encs x) W1 fun e W' => ((e = .returned (.bool true) ∧ J (pre ++ [x]) W') ∨ (e = .returned (.bool false) ∧ Jx (pre ++ [x]) W')) ∧ Below n₀ W1 W' ∧ SameZ Z W1 W' ∧ KeepsFrom W.heap.size W1 W') →
    J [] W → Calls P g (#[.func (.yield l) #[] #[]] ++ lb) W fun e W' => (∃ v, e = .returned v) ∧ (J xs W' ∨ ∃ pre, pre <+: xs ∧ Jx pre W')
/-- How a round's body may be left. -/
def zPost {α : Type} (B n₀ : Nat) (Z : Nat → Prop) (I : List α → World → Prop) (Ix : Code → List α → World → Prop) (xs : List α) (W : World) : Exit → Act → World → Prop
  | .normal, _, W' => KeepsFrom B W W' ∧ Below n₀ W W' ∧ SameZ Z W W' ∧ I xs W'
  | .ret, _, W' => KeepsFrom B W W' ∧ Below n₀ W W' ∧ SameZ Z W W' ∧ Ix .ret xs W'
  | .exit id, _, W' => KeepsFrom B W W' ∧ Below n₀ W W' ∧ SameZ Z W W' ∧ Ix (.exit id) xs W'
  | .goto t, _, W' => KeepsFrom B W W' ∧ Below n₀ W W' ∧ SameZ Z W W' ∧ Ix (.goto t) xs W'
  | .panic _, _, _ => False
  | .outgrown, _, _ => False
theorem range_z {α : Type} {n : Nat} {P : Program} {g : Operand} {ps : Array Tmp} {assign body : Code} {Q : Exit → Act → World → Prop} {a : Act} {w : World}
    {gf : Nat} {lb : Array Value} (hg : a.eval g = .func (.func gf) #[] lb) (eg : ∀ args w, (callFunc gf args).run P w = .ok (.enter gf args) w)
    {encs : α → Array Value} {n₀ : Nat} {xs : List α} (hn : n₀ ≤ w.heap.size) {Z : Nat → Prop} (hZ : ∀ b, Z b → b < w.heap.size) (hseq : SeqZ P gf lb encs n₀ Z xs w) (hps : ∀ x, (encs x).size = ps.size)
    (I : List α → World → Prop) (Ix : Code → List α → World → Prop) (hI : OwnZ Z w.heap.size I) (hIx : ∀ c, OwnZ Z w.heap.size (Ix c)) (h0 : I [] w)
    (Ax : α → Act → World → Prop) (hAx : ∀ x a', OwnZ Z w.heap.size (fun (_ : Unit) W => Ax x a' W))
    (hassign : ∀ (l : Nat) (pre : List α) (x : α) (W : World) (K : Act → World → Prop), I pre W → pre ++ [x] <+: xs → w.heap.size ≤ W.heap.size → (∀ a' W', KeepsFrom w.heap.size W W' → Below n₀ W W' → SameZ Z W W' → I pre W' → Ax x a' W' → K a' W') →
      assign.wpIn (Fence.wide.inRound l) 50 P (Exit.then K (fun _ _ _ => False)) { tmps := (ps.zip (encs x)).foldl (fun t (p, v) => t.setIfInBounds p v) a.tmps, defers := [] } W)
    (hbody : ∀ (l : Nat) (pre : List α) (x : α) (a' : Act) (W : World), I pre W → pre ++ [x] <+: xs → w.heap.size ≤ W.heap.size → Ax x a' W → body.wpIn (Fence.wide.inRound l) 50 P (zPost w.heap.size n₀ Z I Ix (pre ++ [x]) W) a' W)
    (hdone : ∀ (D : Nat) (W : World), w.heap.size ≤ D → I xs W → W.heap[D]? = some (.deferred (some [])) → Q .normal { a with defers := { target := .collected D, args := #[] } :: a.defers } W)
    (hstop : ∀ (D : Nat) (c : Code) (pre : List α) (W : World), w.heap.size ≤ D → pre <+: xs → Ix c pre W → W.heap[D]? = some (.deferred (some [])) → c.wpIn Fence.wide n P Q { a with defers := { target := .collected D, args := #[] } :: a.defers } W) :
    (Code.rangeFunc g ps assign body).wpIn Fence.wide n P Q a w := by
  refine wpIn_rangeFunc fun fn hfn => ?_
  let rec' : LoopState → Option Code → Loop := fun st pe => { state := st, pending := pe, fn, tmps := a.tmps, params := ps, assign, body, defers := w.heap.size }
  obtain ⟨rec, hrec⟩ : ∃ rec, rec = rec' := ⟨_, rfl⟩
  obtain ⟨V, hV⟩ : ∃ V, (w.alloc (.deferred (some []))).alloc (.loop (rec .ready none)) = V := ⟨_, rfl⟩
  have hbV : Below w.heap.size w V := by rw [← hV]; exact ((Below.refl _ w).alloc (Nat.le_refl _) _).alloc (by simp) _
  have hsV : V.heap.size = w.heap.size + 2 := by rw [← hV]; simp
  have hLV : V.heap[w.heap.size + 1]? = some (.loop (rec .ready none)) := by
    rw [← hV]; have := World.alloc_heap_new (w.alloc (.deferred (some []))) (.loop (rec .ready none)); rwa [World.size_alloc] at this
  have hDV : V.heap[w.heap.size]? = some (.deferred (some [])) := by
    rw [← hV]; exact (Below.heap_alloc _ _ _ (by simp)).trans (World.alloc_heap_new w _)
  refine ⟨w.heap.size + 1, [{ target := .collected w.heap.size, args := #[] }], V, { target := .fn (.func gf) lb, args := #[.func (.yield (w.heap.size + 1)) #[] #[]] }, V, gf,
    #[.func (.yield (w.heap.size + 1)) #[] #[]] ++ lb, V, ?_, ?_, fun _ _ => trivial, ?_, fun h => (by cases h), ?_⟩
  · rw [← hV, hrec]; exact run_enterLoop_outer _ _ _ _ _
  · simp only [resolve, hg]
    simp [go_sem]
  · simp [invoke, go_sem, eg]
  refine callsIn_wide.2 ((hseq (w.heap.size + 1)
    (fun pre W => I pre W ∧ W.heap[w.heap.size + 1]? = some (.loop (rec .ready none)) ∧ W.heap[w.heap.size]? = some (.deferred (some [])) ∧ w.heap.size + 2 ≤ W.heap.size)
    (fun pre W => ∃ c, Ix c pre W ∧ W.heap[w.heap.size + 1]? = some (.loop (rec .done (some c))) ∧ W.heap[w.heap.size]? = some (.deferred (some [])) ∧ w.heap.size + 2 ≤ W.heap.size)
    V hbV ?_ ?_ ?_ ⟨hI.below h0 hbV, hLV, hDV, by omega⟩).mono ?_)
  · intro s X Y row ⟨h1, h2, h3, h4⟩ hg' hr
    exact ⟨hI s X Y row h1 hg' (fun r e => (hr r e).imp id (fun h => ⟨by have := h.1; omega, h.2⟩)), ownZ_heap (Z := Z) (B := V.heap.size) (fun _ : List α => .loop (rec .ready none)) (by omega) (fun h => by have := hZ _ h; omega) s X Y row h2 hg' hr,
      ownZ_heap (Z := Z) (B := V.heap.size) (fun _ : List α => .deferred (some [])) (by omega) (fun h => by have := hZ _ h; omega) s X Y row h3 hg' hr, Nat.le_trans h4 hg'.size⟩
  · intro s X Y row ⟨c, h1, h2, h3, h4⟩ hg' hr
    exact ⟨c, hIx c s X Y row h1 hg' (fun r e => (hr r e).imp id (fun h => ⟨by have := h.1; omega, h.2⟩)), ownZ_heap (Z := Z) (B := V.heap.size) (fun _ : List α => .loop (rec .done (some c))) (by omega) (fun h => by have := hZ _ h; omega) s X Y row h2 hg' hr,
      ownZ_heap (Z := Z) (B := V.heap.size) (fun _ : List α => .deferred (some [])) (by omega) (fun h => by have := hZ _ h; omega) s X Y row h3 hg' hr, Nat.le_trans h4 hg'.size⟩
  · -- one round
    rintro pre x W ⟨hi, hl, hd, hs⟩ hpx
    have hy := run_yield (P := P) (args := encs x) hl (by rw [hrec]; exact hps x)
    rw [hrec] at hy
    refine ⟨fn, _, assign, body, hy, roundIn_of_wpIn trivial (hassign _ pre x W _ hi hpx (by omega) fun a' Wa hab hbl hsz hia hax => ?_)⟩
    clear hy
    have hl1 : Wa.heap[w.heap.size + 1]? = some (.loop (rec .ready none)) := hab.same _ _ (by omega) hl rfl
    have hd1 : Wa.heap[w.heap.size]? = some (.deferred (some [])) := hab.same _ _ (Nat.le_refl _) hd rfl
    have hs1 := Nat.le_trans hs hab.size
    refine ⟨_, run_beginRound hl1 (by rw [hrec]), ?_⟩
    obtain ⟨Wb, hWb⟩ : ∃ Wb, Wa.putObj (w.heap.size + 1) (.loop { rec .ready none with state := .busy }) = Wb := ⟨_, rfl⟩
    have hl2 : Wb.heap[w.heap.size + 1]? = some (.loop { rec .ready none with state := .busy }) := by rw [← hWb]; exact World.putObj_heap_same (by omega)
    have hd2 : Wb.heap[w.heap.size]? = some (.deferred (some [])) := by rw [← hWb]; exact (World.putObj_heap_other (by omega)).trans hd1
    have hi2 : I pre Wb := by rw [← hWb]; exact OwnZ.putObj hI _ hia (by omega) hl1 rfl
    have hx2 : Ax x a' Wb := by rw [← hWb]; exact OwnZ.putObj (hAx x a') (s := ()) _ hax (by omega) hl1 rfl
    have hs2 : w.heap.size + 2 ≤ Wb.heap.size := by rw [← hWb]; simpa using hs1
    have hab2 : KeepsFrom (w.heap.size + 2) W Wb := (kf_mono hab (by omega)).trans (by rw [← hWb]; exact kf_put _ _ (by omega))
    have hbl2 : Below n₀ W Wb := hbl.trans (by rw [← hWb]; exact below_put _ (by omega))
    have hsz2 : SameZ Z W Wb := hsz.trans (by rw [← hWb]; exact sameZ_put _ (fun h => by have := hZ _ h; omega))
    rw [hWb]
    refine wpIn_mono (hbody _ pre x a' Wb hi2 hpx (by omega) hx2) ?_
    have fin : ∀ (jump : Option Code) (W3 : World), KeepsFrom w.heap.size Wb W3 → Below n₀ Wb W3 → SameZ Z Wb W3 → ∃ W4, (Instr.endRound (w.heap.size + 1) jump).run P W3 = .ok (.bool jump.isNone) W4 ∧
        W4.heap[w.heap.size + 1]? = some (.loop (rec (if jump.isNone then .ready else .done) jump)) ∧ W4.heap[w.heap.size]? = some (.deferred (some [])) ∧ w.heap.size + 2 ≤ W4.heap.size ∧
        Below n₀ W W4 ∧ SameZ Z W W4 ∧ KeepsFrom V.heap.size W W4 ∧ (∀ {β : Type} {K : β → World → Prop} {s : β}, OwnZ Z w.heap.size K → K s W3 → K s W4) := by
      intro jump W3 ha hb hz3
      have hl3 : W3.heap[w.heap.size + 1]? = some (.loop { rec .ready none with state := .busy }) := ha.same _ _ (by omega) hl2 rfl
      have hd3 : W3.heap[w.heap.size]? = some (.deferred (some [])) := ha.same _ _ (Nat.le_refl _) hd2 rfl
      have hs3 := Nat.le_trans hs2 ha.size
      have he := run_endRound (P := P) jump hl3
      refine ⟨_, he, ?_, (World.putObj_heap_other (by omega)).trans hd3, by simpa using hs3, hbl2.trans (hb.trans (below_put _ (by omega))), hsz2.trans (hz3.trans (sameZ_put _ (fun h => by have := hZ _ h; omega))),
        kf_mono ((hab2.trans (kf_mono ha (by omega))).trans (kf_put _ _ (by omega))) (by omega), fun hK hs => OwnZ.putObj hK _ hs (by omega) hl3 rfl⟩
      rw [World.putObj_heap_same (by omega), hrec]
    rintro e a3 W3 hp
    cases e with
    | normal =>
      obtain ⟨ha, hb, hz3, hi3⟩ := hp
      obtain ⟨W4, hr, h1, h2, h3, h4, h45, h5, h6⟩ := fin none W3 ha hb hz3
      exact ⟨_, _, hr, .inl ⟨rfl, h6 hI hi3, h1, h2, h3⟩, h4, h45, h5⟩
    | ret =>
      obtain ⟨ha, hb, hz3, hi3⟩ := hp
      obtain ⟨W4, hr, h1, h2, h3, h4, h45, h5, h6⟩ := fin (some .ret) W3 ha hb hz3
      exact ⟨_, _, hr, .inr ⟨rfl, .ret, h6 (hIx _) hi3, h1, h2, h3⟩, h4, h45, h5⟩
    | exit id =>
      obtain ⟨ha, hb, hz3, hi3⟩ := hp
      obtain ⟨W4, hr, h1, h2, h3, h4, h45, h5, h6⟩ := fin (some (.exit id)) W3 ha hb hz3
      exact ⟨_, _, hr, .inr ⟨rfl, .exit id, h6 (hIx _) hi3, h1, h2, h3⟩, h4, h45, h5⟩
    | goto t =>
      obtain ⟨ha, hb, hz3, hi3⟩ := hp
      obtain ⟨W4, hr, h1, h2, h3, h4, h45, h5, h6⟩ := fin (some (.goto t)) W3 ha hb hz3
      exact ⟨_, _, hr, .inr ⟨rfl, .goto t, h6 (hIx _) hi3, h1, h2, h3⟩, h4, h45, h5⟩
    | panic ch => exact hp.elim
    | outgrown => exact hp.elim
  · -- behind the iterator
    rintro e W2 ⟨⟨v, rfl⟩, ⟨hi, hl, hd, hs⟩ | ⟨pre, hpre, c, hi, hl, hd, hs⟩⟩
    · exact ⟨none, _, by have := run_endLoop (P := P) hl (by rw [hrec]; simp [rec']); rw [hrec] at this; exact this, hdone _ _ (Nat.le_refl _) (OwnZ.putObj hI _ hi (by omega) hl rfl) ((World.putObj_heap_other (by omega)).trans hd)⟩
    · exact ⟨some c, _, by have := run_endLoop (P := P) hl (by rw [hrec]; simp [rec']); rw [hrec] at this; exact this, hstop _ c pre _ (Nat.le_refl _) hpre (OwnZ.putObj (hIx c) _ hi (by omega) hl rfl) ((World.putObj_heap_other (by omega)).trans hd)⟩
end Go.Proofs.Ythcoiabgemclbaa.PD
/- code.groups' iterator: a number's groups of seven bits, the low ones first; it keeps what is left in a variable of its own. -/
namespace Go.Proofs.Ythcoiabgemclbaa.PD
open Go.RowKit Go.Shelf Go.Proofs.YthcoiabgemclbaaW.PrintWords Go.Proofs.YthcoiabgemclbaaW.PrintLast Go.Proofs.YthcoiabgemclbaaW.PrintMore
set_option linter.unusedVariables false
set_option linter.unusedSimpArgs false
attribute [local go_sem] Oper.semAt_some wide_fn wide_depth isSome_setCell
/-- A number's groups: seven bits, and whether more follow. -/
def low7 (n : Nat) : Fin 128 := ⟨n % 128, Nat.mod_lt _ (by decide)⟩
def grpW (n : Nat) : List (Fin 128 × Bool) := if n < 128 then [(low7 n, false)] else (low7 n, true) :: grpW (n / 128)
termination_by n
decreasing_by omega
def boxN (W : World) (b : Nat) : Nat := match W.heap[b]? with
  | some (.cells cs _ _) => intN (cs.getD 0 undef)
  | _ => 0
theorem boxN_at {W : World} {b : Nat} {a : Nat} (h : W.heap[b]? = some (.cells #[.int .u64 (a : Int)] 58 (0, 0))) : boxN W b = a := by unfold boxN; rw [h]; rfl
theorem bits_and127 (a : Nat) (h : a < 18446744073709551616) : bits .and .u64 (a : Int) 127 = ((a % 128 : Nat) : Int) := by
  have := u64_and_nat a 127 h (by omega)
  rw [show ((127 : Nat) : Int) = 127 from rfl] at this
  rw [this, show (127 : Nat) = 2 ^ 7 - 1 by decide, Nat.and_two_pow_sub_one_eq_mod]
theorem grown_set (w : World) (g i : Nat) (u : Value) : w.grownBy (w.setCell ⟨g, i, none⟩ u) (some g) :=
  ⟨rfl, rfl, rfl, by simp [World.setCell], fun k _ hk => Below.heap_setCell w ⟨g, i, none⟩ u k (fun e => hk (by rw [e]))⟩
set_option maxRecDepth 100000 in
set_option maxHeartbeats 4000000 in
theorem group_in (l Bn n₀ : Nat) (a0 : Nat) (ha : a0 < 18446744073709551616) (J Jx : List (Fin 128 × Bool) → World → Prop) (W : World) (hJ : OwnZ (· = Bn) W.heap.size J)
    (hY : ∀ pre x W1, J pre W1 → pre ++ [x] <+: grpW a0 → YieldAt Fence.wide 50 Try.prog l #[.int .u8 (x.1.val : Int), .bool x.2] W1 fun e W' => ((e = .returned (.bool true) ∧ J (pre ++ [x]) W') ∨ (e = .returned (.bool false) ∧ Jx (pre ++ [x]) W')) ∧ Below n₀ W1 W' ∧ SameZ (· = Bn) W1 W' ∧ KeepsFrom W.heap.size W1 W')
    (hBn : W.heap[Bn]? = some (.cells #[.int .u64 (a0 : Int)] 58 (0, 0))) (h0 : J [] W) :
    CallsIn Fence.wide 51 Try.prog 77 #[.func (.yield l) #[] #[], .pointer (some ⟨Bn, 0, none⟩)] W fun e W' => (∃ v, e = .returned v) ∧ (J (grpW a0) W' ∨ ∃ pre, pre <+: grpW a0 ∧ Jx pre W') := by
  refine callsIn_of_wp Try.func77 rfl trivial ?_ rfl
  simp only [Try.ntmps77, List.size_toArray, List.length_cons, List.length_nil, Nat.reduceAdd, Nat.reduceSub, Array.replicate_succ, Array.replicate_zero, List.push_toArray, List.append_toArray, List.nil_append, List.cons_append]
  have HY := Aside0.mk hY
  have HJ := Aside0.mk hJ
  have H0 := Aside0.mk h0
  have HBn := Aside0.mk hBn
  clear hY hJ h0 hBn
  gi_wp2
  gi_loopw [5] (fun p wr => ∃ (a : Nat) (pre : List (Fin 128 × Bool)), Aside0 (pre ++ grpW a = grpW a0) ∧ a < 18446744073709551616 ∧ Aside0 (wr.heap[Bn]? = some (.cells #[.int .u64 (a : Int)] 58 (0, 0))) ∧ Aside0 (J pre wr))
    (fun _ wr => boxN wr Bn)
  case atStart => exact ⟨a0, [], ⟨rfl⟩, ha, HBn, H0⟩
  case round =>
    obtain ⟨a, pre, HL, ha, HB, HJ1⟩ := hrel
    have hc : wr.cell? ⟨Bn, 0, none⟩ = some (.int .u64 (a : Int)) := (blk_cell HB.out 0).trans rfl
    have hand : bits .and .u64 (a : Int) 127 = ((a % 128 : Nat) : Int) := bits_and127 a ha
    have hmod : ((a % 128 : Nat) : Int) % 256 = ((a % 128 : Nat) : Int) := by omega
    obtain ⟨r, hr⟩ : ∃ r, r = low7 a := ⟨_, rfl⟩
    have hr2 : a % 128 = r.val := by rw [hr]; rfl
    rw [hr2] at hand hmod
    have HR := Aside0.mk hr
    clear hr hr2
    by_cases hlt : a < 128
    · have hge : decide ((a : Int) ≥ 128) = false := decide_eq_false (by omega)
      have hlt2 : decide ((a : Int) < 128) = true := decide_eq_true (by omega)
      have hgw : grpW a = [(r, false)] := by rw [grpW, if_pos hlt, HR.out]
      have HGW := Aside0.mk hgw
      clear hgw
      obtain ⟨fn, tmps, assign, body, hy, hRd⟩ := HY.out pre (r, false) wr HJ1.out ⟨[], by rw [List.append_nil, ← HL.out, HGW.out]⟩
      have HRr := Aside0.mk hRd
      clear hRd
      gi_wp2
      refine HRr.out.mono ?_
      rintro e W4 ⟨⟨rfl, hJ4⟩ | ⟨rfl, hJx4⟩, hb4, hz4, hab4⟩
      · have hc4 : W4.cell? ⟨Bn, 0, none⟩ = some (.int .u64 (a : Int)) := (blk_cell ((hz4 Bn rfl).trans HB.out) 0).trans rfl
        gi_wp2
        refine bodyPost_ret (results_none rfl _ _ _) rfl ?_
        exact ⟨⟨_, rfl⟩, .inl (by rw [← HL.out, HGW.out]; exact hJ4)⟩
      · gi_wp2
        refine bodyPost_ret (results_none rfl _ _ _) rfl ?_
        exact ⟨⟨_, rfl⟩, .inr ⟨_, by rw [← HL.out, HGW.out]; exact List.prefix_refl _, hJx4⟩⟩
    · have hge : decide ((a : Int) ≥ 128) = true := decide_eq_true (by omega)
      have hlt2 : decide ((a : Int) < 128) = false := decide_eq_false (by omega)
      have hgw : grpW a = (r, true) :: grpW (a / 128) := by rw [grpW, if_neg hlt, HR.out]
      have HGW := Aside0.mk hgw
      clear hgw
      obtain ⟨fn, tmps, assign, body, hy, hRd⟩ := HY.out pre (r, true) wr HJ1.out ⟨grpW (a / 128), by rw [← HL.out, HGW.out, List.append_assoc]; rfl⟩
      have HRr := Aside0.mk hRd
      clear hRd
      gi_wp2
      refine HRr.out.mono ?_
      rintro e W4 ⟨⟨rfl, hJ4⟩ | ⟨rfl, hJx4⟩, hb4, hz4, hab4⟩
      · have hbk4 := (hz4 Bn rfl).trans HB.out
        have hc4 : W4.cell? ⟨Bn, 0, none⟩ = some (.int .u64 (a : Int)) := (blk_cell hbk4 0).trans rfl
        have hf4 := blk_frozen hbk4 0
        have HBK4 := Aside0.mk hbk4
        clear hbk4
        gi_wp2
        have e : ((a : Int) / 128) = ((a / 128 : Nat) : Int) := by omega
        rw [e]
        have hnew : (W4.setCell ⟨Bn, 0, none⟩ (.int .u64 ((a / 128 : Nat) : Int))).heap[Bn]? = some (.cells #[.int .u64 ((a / 128 : Nat) : Int)] 58 (0, 0)) := blk_set HBK4.out 0 _
        refine ⟨⟨a / 128, pre ++ [(r, true)], ⟨?_⟩, by omega, ⟨hnew⟩, ⟨?_⟩⟩, ?_⟩
        · rw [← HL.out, HGW.out, List.append_assoc]
          rfl
        · exact HJ.out _ W4 _ (some Bn) hJ4 (grown_set W4 Bn 0 _) (fun r e => by cases e; exact .inl rfl)
        · rw [boxN_at hnew, boxN_at HB.out]
          omega
      · gi_wp2
        refine bodyPost_ret (results_none rfl _ _ _) rfl ?_
        exact ⟨⟨_, rfl⟩, .inr ⟨_, by rw [← HL.out, HGW.out]; exact ⟨grpW (a / 128), by simp⟩, hJx4⟩⟩
end Go.Proofs.Ythcoiabgemclbaa.PD
/- code.Number: a number's bytes, for every number. -/
namespace Go.Proofs.Ythcoiabgemclbaa.PD
open Go.RowKit Go.Shelf Go.Proofs.YthcoiabgemclbaaW.PrintWords Go.Proofs.YthcoiabgemclbaaW.PrintLast Go.Proofs.YthcoiabgemclbaaW.PrintMore
set_option linter.unusedVariables false
set_option linter.unusedSimpArgs false
attribute [local go_sem] Oper.semAt_some wide_fn wide_depth isSome_setCell
theorem groups_in (n : Nat) (a : Int) (w : World) :
    CallsIn Fence.wide n Try.prog 55 #[.int .u64 a] w fun e w' => e = .returned (.func (.func 77) #[] #[.pointer (some ⟨w.heap.size, 0, none⟩)]) ∧ w' = w.alloc (.cells #[.int .u64 a] 58) := by
  refine callsIn_of_wp Try.func55 rfl trivial ?_ rfl
  simp only [Try.ntmps55, List.size_toArray, List.length_cons, List.length_nil, Nat.reduceAdd, Nat.reduceSub, Array.replicate_succ, Array.replicate_zero, List.push_toArray, List.append_toArray, List.nil_append, List.cons_append]
  gi_wp2
  go_ret
  exact ⟨rfl, rfl⟩
theorem group_z (n₀ Bn : Nat) (a0 : Nat) (ha : a0 < 18446744073709551616) (w : World) (hlt : Bn < w.heap.size) (hBn : w.heap[Bn]? = some (.cells #[.int .u64 (a0 : Int)] 58 (0, 0))) :
    SeqZ Try.prog 77 #[.pointer (some ⟨Bn, 0, none⟩)] (fun x : Fin 128 × Bool => #[.int .u8 (x.1.val : Int), .bool x.2]) n₀ (· = Bn) (grpW a0) w := fun l J Jx W hW hJ hJx hY h0 =>
  (callsIn_wide (n := 51)).1 (group_in l Bn n₀ a0 ha J Jx W hJ hY ((hW.block Bn hlt).trans hBn) h0)
def byteG (x : Fin 128 × Bool) : Int := if x.2 then (x.1.val : Int) + 128 else (x.1.val : Int)
theorem or128_fin : ∀ m : Fin 128, bits BinOp.or IntKind.u8 ((m.val : Nat) : Int) 128 = ((m.val : Nat) : Int) + 128 := by decide +kernel
def NumI (w : World) (S : Nat) (pre : List (Fin 128 × Bool)) (W : World) : Prop :=
  ∃ v, Boxed W S 85 v ∧ W.ownsRow S 5 1 v pre.length (pre.map fun x => Value.int .u8 (byteG x)) ∧ (∀ k, v.ownBlock = some k → k ≠ S + 1) ∧ Below w.heap.size w W
theorem numI_own (w : World) (S : Nat) (hS : w.heap.size = S) (B : Nat) (hB : w.heap.size + 2 ≤ B) : OwnZ (· = S + 1) B (NumI w S) := by
  rintro s X Y row ⟨v, h1, h2, h3, h4⟩ hg hr
  have hrow : ∀ r, row = some r → r = S + 1 ∨ B ≤ r := fun r e => (hr r e).imp id (fun h => h.1)
  refine ⟨v, (hg.block S h1.lt (fun e => by rcases hrow S e.symm with h | h <;> omega)).trans h1, h2.kept hg ?_, h3, h4.grown hg h4.size (fun k e => by rcases hrow k e with h | h <;> omega)⟩
  cases hv : v.ownBlock with
  | none => exact .inl rfl
  | some k =>
    right
    intro e
    rcases hr k e.symm with h | ⟨_, o, ho, hc⟩
    · exact h3 k hv h
    · obtain ⟨cells, hk⟩ := own_typed h2 k hv
      rw [hk] at ho
      cases ho
      cases hc
theorem strOf_grp : ∀ (f n : Nat), n < 128 ^ (f + 1) → (grpW n).map (fun x => UInt8.ofNat (byteG x).toNat) = numL (f + 1) n
  | 0, n, h => by
    rw [grpW, if_pos (by simpa using h), numL, if_pos (by simpa using h)]
    simp [byteG, low7, Nat.mod_eq_of_lt (show n < 128 by simpa using h)]
  | f + 1, n, h => by
    rw [grpW, numL]
    by_cases c : n < 128
    · rw [if_pos c, if_pos c]
      simp [byteG, low7, Nat.mod_eq_of_lt c]
    · rw [if_neg c, if_neg c, List.map_cons, strOf_grp f (n / 128) (by rw [Nat.pow_succ] at h; exact Nat.div_lt_of_lt_mul (by rw [Nat.mul_comm]; exact h))]
      congr 1
theorem numB_grp (n : Nat) (h : n < 18446744073709551616) : strOfNums ((grpW n).map byteG) = numB n := by
  have h2 := strOf_grp 9 n (Nat.lt_of_lt_of_le h (by decide))
  unfold strOfNums numB
  rw [← h2, List.map_map]
  rfl
def code_Number.f (a0 : Int) : Option (ByteArray) := if 0 ≤ a0 ∧ a0 < 18446744073709551616 then some (numB a0.toNat) else none
theorem numL_le5 : ∀ f n : Nat, (numL f n).length ≤ f
  | 0, _ => Nat.le_refl _
  | f + 1, n => by
    unfold numL
    split
    · simp
    · simp only [List.length_cons]; have := numL_le5 f (n / 128); omega
theorem grpW_len (n : Nat) : ∀ k, n < 128 ^ (k + 1) → (grpW n).length ≤ k + 1 := by
  intro k h
  have := congrArg List.length (strOf_grp k n h)
  rw [List.length_map] at this
  rw [this]
  exact numL_le5 (k + 1) n
theorem num_round {w W w1 : World} {S B : Nat} {pre : List (Fin 128 × Bool)} {x : Fin 128 × Bool} {y : Int} {v : Value} {g' cap' : Nat} (hB : Below w.heap.size w W) (hS : w.heap.size = S) (hSW : S + 2 ≤ W.heap.size)
    (hne : ∀ k, v.ownBlock = some k → k ≠ S + 1) (hv2 : Boxed (w1.setCell ⟨S, 0, none⟩ (.slice (some ⟨g', 0, none⟩) (pre.length + 1) cap')) S 85 (.slice (some ⟨g', 0, none⟩) (pre.length + 1) cap'))
    (hr2 : (w1.setCell ⟨S, 0, none⟩ (.slice (some ⟨g', 0, none⟩) (pre.length + 1) cap')).ownsRow S 5 1 (.slice (some ⟨g', 0, none⟩) (pre.length + 1) cap') (pre.length + 1) (pre.map (fun x => Value.int .u8 (byteG x)) ++ [.int .u8 y])) {tmp : Obj}
    (hgrow : (W.alloc tmp).grownBy w1 v.ownBlock) (hloc : (Value.slice (some ⟨g', 0, none⟩) (pre.length + 1) cap').ownBlock = v.ownBlock ∨ (Value.slice (some ⟨g', 0, none⟩) (pre.length + 1) cap').ownBlock = some (W.alloc tmp).heap.size)
    (hk2 : KeepsOthers W (w1.setCell ⟨S, 0, none⟩ (.slice (some ⟨g', 0, none⟩) (pre.length + 1) cap'))) (hb2 : Below S W (w1.setCell ⟨S, 0, none⟩ (.slice (some ⟨g', 0, none⟩) (pre.length + 1) cap')))
    (hsn : (pre ++ [x]).map (fun x => Value.int .u8 (byteG x)) = pre.map (fun x => Value.int .u8 (byteG x)) ++ [.int .u8 y]) :
    KeepsFrom B W (w1.setCell ⟨S, 0, none⟩ (.slice (some ⟨g', 0, none⟩) (pre.length + 1) cap')) ∧ Below w.heap.size W (w1.setCell ⟨S, 0, none⟩ (.slice (some ⟨g', 0, none⟩) (pre.length + 1) cap')) ∧
      SameZ (· = S + 1) W (w1.setCell ⟨S, 0, none⟩ (.slice (some ⟨g', 0, none⟩) (pre.length + 1) cap')) ∧ NumI w S (pre ++ [x]) (w1.setCell ⟨S, 0, none⟩ (.slice (some ⟨g', 0, none⟩) (pre.length + 1) cap')) := by
  subst hS
  refine ⟨hk2.from _, hb2, ?_, ⟨_, hv2, ?_, ?_, hB.trans hb2⟩⟩
  · rintro b rfl
    refine (Below.heap_setCell w1 _ _ _ (by show w.heap.size + 1 ≠ w.heap.size; omega)).trans ((hgrow.block _ (by rw [World.size_alloc]; omega) (fun e => hne _ e.symm rfl)).trans ?_)
    exact Below.heap_alloc W tmp _ (by omega)
  · rw [List.length_append, hsn]
    exact hr2
  · intro k hk
    rcases hloc with h | h
    · exact hne k (h.symm.trans hk)
    · rw [hk] at h
      cases h
      rw [World.size_alloc]
      omega
set_option maxRecDepth 100000 in
set_option maxHeartbeats 8000000 in
theorem code_Number.calls (a0 : Int) (r : ByteArray) (w : World) (h : code_Number.f a0 = some r) :
    Calls Try.prog 41 #[.int .u64 a0] w fun e w' => e = .returned (.string r) ∧ Below w.heap.size w w' := by
  unfold code_Number.f at h
  split at h
  case isFalse => cases h
  rename_i hh
  obtain ⟨h0, h1⟩ := hh
  obtain rfl := Option.some.inj h
  clear h
  obtain ⟨a, rfl⟩ := Int.eq_ofNat_of_zero_le h0
  rw [Int.toNat_natCast]
  have ha : a < 18446744073709551616 := by omega
  clear h0 h1
  have HNB : Aside0 (strOfNums ((grpW a).map byteG) = numB a) := ⟨numB_grp a ha⟩
  have HGL : Aside0 ((grpW a).length ≤ 10) := ⟨grpW_len a 9 (Nat.lt_of_lt_of_le ha (by decide))⟩
  have HA := Aside0.mk ha
  clear ha
  refine (callsIn_wide (n := 51)).1 ?_
  refine callsIn_of_wp_marks Try.func41 rfl trivial ?_ rfl
  simp only [Try.ntmps41, List.size_toArray, List.length_cons, List.length_nil, Nat.reduceAdd, Nat.reduceSub, Array.replicate_succ, Array.replicate_zero, List.push_toArray, List.append_toArray, List.nil_append, List.cons_append]
  gi_wp2_with (gi_at_call 55; refine (groups_in (51 - 1) _ _).mono ?_; rintro e w' ⟨rfl, rfl⟩)
  have b0 := (Boxed.new w 85 (.slice none 0 0)).alloc (.cells #[.int .u64 (a : Int)] 58)
  have b1 := heap_alloc_new (w.alloc (.cells #[.slice none 0 0] 85)) (.cells #[.int .u64 (a : Int)] 58)
  simp only [World.size_alloc] at b0 b1
  have hB0 : Below w.heap.size w ((w.alloc (.cells #[.slice none 0 0] 85)).alloc (.cells #[.int .u64 (a : Int)] 58)) := below_alloc (below_alloc (Below.refl _ _) _) _
  have hz : ((w.alloc (.cells #[.slice none 0 0] 85)).alloc (.cells #[.int .u64 (a : Int)] 58)).heap.size = w.heap.size + 2 := by simp
  obtain ⟨V, hV⟩ : ∃ V, (w.alloc (.cells #[.slice none 0 0] 85)).alloc (.cells #[.int .u64 (a : Int)] 58) = V := ⟨_, rfl⟩
  rw [hV] at b0 b1 hB0 hz ⊢
  clear hV
  obtain ⟨S, hS⟩ : ∃ S, w.heap.size = S := ⟨_, rfl⟩
  rw [hS] at b0 b1 hz ⊢
  obtain ⟨i0, hi, hz0, hz1', hz2⟩ := info_parts info5
  refine range_z (n₀ := w.heap.size) (Z := (· = S + 1)) (gf := 77) (lb := #[.pointer (some ⟨S + 1, 0, none⟩)]) rfl (enters_of Try.func77 (by kernel_rfl) rfl) (by omega) (fun b hb => by omega)
    (group_z w.heap.size (S + 1) a HA.out V (by omega) b1) (fun _ => rfl) (NumI w S) (fun _ _ _ => False) (numI_own w S hS _ (by omega)) (fun _ _ _ _ _ hs _ _ => hs.elim)
    ⟨_, b0, World.ownsRow_nil _ _ _ _, (fun k hk => by simp [Value.ownBlock] at hk), hB0⟩
    (fun x a' _ => a' = { tmps := #[.int .u64 (a : Int), undef, .string ⟨#[]⟩, .pointer (some ⟨S, 0, none⟩), .int .u8 (x.1.val : Int), .bool x.2, .int .u64 (a : Int), .func (.func 77) #[] #[.pointer (some ⟨S + 1, 0, none⟩)], .int .u8 (x.1.val : Int), .bool x.2, undef, undef, undef, undef, undef, undef, undef, undef, undef], defers := [] }) (fun _ _ _ _ _ _ hs _ _ => hs) ?assign ?body ?done ?stop
  case assign =>
    intro l pre x W K hI hpx hW hK
    gi_wp2
    refine hK _ _ (KeepsFrom.refl _ _) (Below.refl _ _) (fun _ _ => rfl) hI (by simp)
  case body =>
    rintro l pre x a' W ⟨v, h0', hrow, hne, hB⟩ hpx hWs rfl
    have hlen : pre.length < 10 := by
      have := hpx.length_le
      have := HGL.out
      simp at *
      omega
    clear hpx
    obtain ⟨A1, c1, rfl⟩ := own_slice hrow
    have cc0 := h0'.cell
    have hor := or128_fin x.1
    have hx1 := x.1.isLt
    obtain ⟨y, hy⟩ : ∃ y, y = byteG x := ⟨_, rfl⟩
    have hsn : (pre ++ [x]).map (fun x => Value.int .u8 (byteG x)) = pre.map (fun x => Value.int .u8 (byteG x)) ++ [.int .u8 y] := by rw [List.map_append, hy]; rfl
    have HSN := Aside0.mk hsn
    clear hsn
    cases hxb : x.2 with
    | true =>
      have hy2 : y = (x.1.val : Int) + 128 := by rw [hy]; unfold byteG; rw [hxb]; rfl
      rw [← hy2] at hor
      clear hy hy2
      gi_wp2_with (gi_at_builtin; refine wpListIn_append_own_at _ rfl _ _ 85 rfl S 5 i0 (.int .u8 0) 1 1 Try.underlying85 hi hz0 hz1' hz2 rfl (by decide) _ _ _ rfl (hrow.alloc _) ⟨W.heap.size, 0, none⟩ 1 1 [.int .u8 y] rfl rfl (cell_one_new _ _ _) (by simp [Value.oneCell']) (by unfold maxLen; omega) (by omega) (by have := h0'.lt; simp; omega) ?_; intro v' w1 hown' hgrow _ hloc; obtain ⟨g', cap', rfl⟩ := ownsRow_succ hown'; obtain ⟨hv1, hv2, hr2, hk2, hb2⟩ := h0'.appended (by decide) hrow (by have := h0'.lt; omega) (Nat.le_refl _) hown' hgrow; have HGR := Aside0.mk hgrow; have HLO := Aside0.mk hloc; have HV2 := Aside0.mk hv2; have HR2 := Aside0.mk hr2; have HK2 := Aside0.mk hk2; have HB2 := Aside0.mk hb2; clear hown' hgrow hloc hv2 hr2 hk2 hb2; have hc1 := hv1.cell; have hf1 := hv1.frozen)
      exact num_round hB hS (by omega) hne HV2.out HR2.out HGR.out HLO.out HK2.out HB2.out HSN.out
    | false =>
      have hy2 : (x.1.val : Int) = y := by rw [hy]; unfold byteG; rw [hxb]; rfl
      rw [hy2]
      clear hy hy2 hor
      gi_wp2_with (gi_at_builtin; refine wpListIn_append_own_at _ rfl _ _ 85 rfl S 5 i0 (.int .u8 0) 1 1 Try.underlying85 hi hz0 hz1' hz2 rfl (by decide) _ _ _ rfl (hrow.alloc _) ⟨W.heap.size, 0, none⟩ 1 1 [.int .u8 y] rfl rfl (cell_one_new _ _ _) (by simp [Value.oneCell']) (by unfold maxLen; omega) (by omega) (by have := h0'.lt; simp; omega) ?_; intro v' w1 hown' hgrow _ hloc; obtain ⟨g', cap', rfl⟩ := ownsRow_succ hown'; obtain ⟨hv1, hv2, hr2, hk2, hb2⟩ := h0'.appended (by decide) hrow (by have := h0'.lt; omega) (Nat.le_refl _) hown' hgrow; have HGR := Aside0.mk hgrow; have HLO := Aside0.mk hloc; have HV2 := Aside0.mk hv2; have HR2 := Aside0.mk hr2; have HK2 := Aside0.mk hk2; have HB2 := Aside0.mk hb2; clear hown' hgrow hloc hv2 hr2 hk2 hb2; have hc1 := hv1.cell; have hf1 := hv1.frozen)
      exact num_round hB hS (by omega) hne HV2.out HR2.out HGR.out HLO.out HK2.out HB2.out HSN.out
  case done =>
    rintro D W hD ⟨v, h0', hrow, hne, hB⟩ hK
    obtain ⟨A1, c1, rfl⟩ := own_slice hrow
    have cc0 := h0'.cell
    have hrow2 : W.ownsRow S 5 1 (.slice A1 (grpW a).length c1) ((grpW a).map byteG).length (nums .u8 ((grpW a).map byteG)) := by
      rw [List.length_map]
      unfold nums
      rw [List.map_map]
      exact hrow
    have hcv := own_string (P := Try.prog) (xs := (grpW a).map byteG) Try.underlying85 Try.underlying5 Try.underlying9 hrow2
    rw [HNB.out] at hcv
    replace hcv : (convert 85 9 (.slice A1 (grpW a).length c1)).run Try.prog W = .ok (.string (numB a)) W := hcv
    clear hrow2 hrow
    gi_wp2
    refine ⟨by simp, .inl ⟨_, _, rfl, run_takeDeferred hK, ?_⟩⟩
    exact ⟨_, results_tmp rfl _ _ _, rfl, hB.trans (belowK_b (w := V) (by omega) W D _ _ hD hK rfl rfl)⟩
  case stop =>
    rintro D c pre W _ _ h _
    exact h.elim
end Go.Proofs.Ythcoiabgemclbaa.PD
-- written by a program of this work (mk.sh, over the kit's print; stubs are proved by hand)
namespace Go.Proofs.Ythcoiabgemclbaa.PD
open Go.RowKit Go.Proofs.YthcoiabgemclbaaW.PrintWords Go.Proofs.YthcoiabgemclbaaW.PrintLast Go.Proofs.YthcoiabgemclbaaW.PrintMore
attribute [local go_sem] isSome_setCell max2_int min2_int max_two min_two max_three min_three max_four min_four   -- for this text's walks alone
set_option linter.unusedVariables false
set_option linter.unusedSimpArgs false

/-! ### code_Text: function 42 -/
def code_Text.f (a0 : ByteArray) : Option (ByteArray) := (code_Number.f (IntKind.u64.wrap ((a0.size : Int)))).bind fun t252 => (if t252.size + a0.size ≤ 9223372036854775807 then (some (t252 ++ a0)) else (none))
set_option maxHeartbeats 8000000 in
set_option maxRecDepth 100000 in
theorem code_Text.calls (a0 : ByteArray) (r : ByteArray) (w : World) (h : code_Text.f a0 = some r) :
    Calls Try.prog 42 #[.string a0] w fun e w' => e = .returned (.string r) ∧ Below w.heap.size w w' := by
  have HB := Aside0.mk (Below.refl w.heap.size w)
  have H : ((code_Number.f (IntKind.u64.wrap ((a0.size : Int)))).bind fun t252 => (if t252.size + a0.size ≤ 9223372036854775807 then (some (t252 ++ a0)) else (none))) = some r := h
  clear h
  replace H := Option.bind_eq_some_iff.mp H
  obtain ⟨t252, A20, H⟩ := H
  replace H : (if t252.size + a0.size ≤ 9223372036854775807 then (some (t252 ++ a0)) else (none)) = some r := H
  have A2 := Aside0.mk A20
  clear A20
  by_cases c3 : t252.size + a0.size ≤ 9223372036854775807
  · rw [if_pos c3] at H
    have c3b0 := eq_true c3
    have c3b1 : decide (t252.size + a0.size ≤ 9223372036854775807) = true := decide_eq_true c3
    try have c3b2 : (9223372036854775807 < t252.size + a0.size) = False := eq_false (Nat.not_lt.2 c3)
    obtain rfl := Option.some.inj H
    replace A2 : Aside0 (code_Number.f (a0.size : Int) = some t252) := ⟨by have h_ := A2.out; rwa [show IntKind.u64.wrap (a0.size : Int) = (a0.size : Int) from by simp [IntKind.wrap, IntKind.bits, IntKind.signed]; omega] at h_⟩
    go_enter Try.func42, Try.ntmps42
    go_wp2_with (first | ((with_reducible refine gate_callee (f := 41) rfl ?_); refine goesL_ (some 6) rfl rfl Try.func41 (by kernel_rfl) rfl #[.int .u64 (a0.size : Int)] rfl (by (try simp only [List.map_toArray, List.map_cons, List.map_nil]); first | done | rfl | (simp only [List.length_drop, List.length_take]; rfl)) ?_; (with_reducible refine (code_Number.calls (a0.size : Int) t252 _ A2.out).mono ?_); rintro e w4 ⟨rfl, hb⟩; refine ⟨_, rfl, ?_⟩; have n0_ := Aside0.mk (below_step (by repeat (first | (with_reducible first | exact HB.out | apply below_alloc | apply pw_below_drewN | apply below_drew1) | exact HB.out)) hb); clear HB; have HB := n0_; clear n0_; (try clear hb); (try clear hb2); (try clear hk); (try clear hi)))
    go_ret
    exact ⟨by first | rfl | (simp [errW_none, errW_some] <;> rfl) | (simp [*, errW_none, errW_some] <;> rfl), by repeat (first | (with_reducible first | exact HB.out | apply below_alloc | apply pw_below_drewN | apply below_drew1) | exact HB.out)⟩
  · rw [if_neg c3] at H
    exact absurd H (by simp)

end Go.Proofs.Ythcoiabgemclbaa.PD
-- written by a program of this work (mk.sh, over the kit's print; stubs are proved by hand)
namespace Go.Proofs.Ythcoiabgemclbaa.PD
open Go.RowKit Go.Proofs.YthcoiabgemclbaaW.PrintWords Go.Proofs.YthcoiabgemclbaaW.PrintLast Go.Proofs.YthcoiabgemclbaaW.PrintMore
attribute [local go_sem] isSome_setCell max2_int min2_int max_two min_two max_three min_three max_four min_four   -- for this text's walks alone
set_option linter.unusedVariables false
set_option linter.unusedSimpArgs false

/-! ### code_Signed: function 43 -/
def code_Signed.f (a0 : Int) : Option (ByteArray) := (code_Number.f (IntKind.u64.wrap (Go.bits .xor .i64 (wrap64 (a0 * 2)) (a0 / 9223372036854775808)))).bind fun t253 => (some t253)
set_option maxHeartbeats 8000000 in
set_option maxRecDepth 100000 in
theorem code_Signed.calls (a0 : Int) (r : ByteArray) (w : World) (h : code_Signed.f a0 = some r) :
    Calls Try.prog 43 #[.int .i64 a0] w fun e w' => e = .returned (.string r) ∧ Below w.heap.size w w' := by
  have HB := Aside0.mk (Below.refl w.heap.size w)
  have H : ((code_Number.f (IntKind.u64.wrap (Go.bits .xor .i64 (wrap64 (a0 * 2)) (a0 / 9223372036854775808)))).bind fun t253 => (some t253)) = some r := h
  clear h
  replace H := Option.bind_eq_some_iff.mp H
  obtain ⟨t253, A20, H⟩ := H
  replace H : (some t253) = some r := H
  have A2 := Aside0.mk A20
  clear A20
  obtain rfl := Option.some.inj H
  go_enter Try.func43, Try.ntmps43
  go_wp2_with (first | ((with_reducible refine gate_callee (f := 41) rfl ?_); refine goesL_ (some 9) rfl rfl Try.func41 (by kernel_rfl) rfl #[.int .u64 (IntKind.u64.wrap (Go.bits .xor .i64 (wrap64 (a0 * 2)) (a0 / 9223372036854775808)))] rfl (by (try simp only [List.map_toArray, List.map_cons, List.map_nil]); first | done | rfl | (simp only [List.length_drop, List.length_take]; rfl)) ?_; (with_reducible refine (code_Number.calls (IntKind.u64.wrap (Go.bits .xor .i64 (wrap64 (a0 * 2)) (a0 / 9223372036854775808))) t253 _ A2.out).mono ?_); rintro e w3 ⟨rfl, hb⟩; refine ⟨_, rfl, ?_⟩; have n0_ := Aside0.mk (below_step (by repeat (first | (with_reducible first | exact HB.out | apply below_alloc | apply pw_below_drewN | apply below_drew1) | exact HB.out)) hb); clear HB; have HB := n0_; clear n0_; (try clear hb); (try clear hb2); (try clear hk); (try clear hi)))
  go_ret
  exact ⟨by first | rfl | (simp [errW_none, errW_some] <;> rfl) | (simp [*, errW_none, errW_some] <;> rfl), by repeat (first | (with_reducible first | exact HB.out | apply below_alloc | apply pw_below_drewN | apply below_drew1) | exact HB.out)⟩

end Go.Proofs.Ythcoiabgemclbaa.PD
-- written by a program of this work (mk.sh, over the kit's print; stubs are proved by hand)
namespace Go.Proofs.Ythcoiabgemclbaa.PD
open Go.RowKit Go.Proofs.YthcoiabgemclbaaW.PrintWords Go.Proofs.YthcoiabgemclbaaW.PrintLast Go.Proofs.YthcoiabgemclbaaW.PrintMore
attribute [local go_sem] isSome_setCell max2_int min2_int max_two min_two max_three min_three max_four min_four   -- for this text's walks alone
set_option linter.unusedVariables false
set_option linter.unusedSimpArgs false

/-! ### span_Bytes: function 21 -/
def span_Bytes.l0 : Nat → ByteArray → List (S25) → Int → Int → Option (ByteArray)
  | 0, _, _, _, _ => none
  | k + 1, x3, x10, x11, x12 => if x12 < x11 then (if 0 ≤ x12 then (if x12 < (x10.length : Int) then ((code_Text.f ((rd_T25 x10 x12).f0)).bind fun t257 => ((code_Signed.f ((rd_T25 x10 x12).f1)).bind fun t258 => (if t257.size + t258.size ≤ 9223372036854775807 then ((code_Number.f (IntKind.u64.wrap (wrap64 (((rd_T25 x10 x12).f2) - ((rd_T25 x10 x12).f1))))).bind fun t259 => (if (t257 ++ t258).size + t259.size ≤ 9223372036854775807 then (if x3.size + ((t257 ++ t258) ++ t259).size ≤ 9223372036854775807 then (span_Bytes.l0 k (x3 ++ ((t257 ++ t258) ++ t259)) x10 x11 (wrap64 (x12 + 1))) else (none)) else (none))) else (none)))) else (none)) else (none)) else (some x3)
def span_Bytes.f (k : Nat) (l0 : List (S25)) : Option (ByteArray) := (code_Number.f (IntKind.u64.wrap ((l0.length : Int)))).bind fun t254 => (span_Bytes.l0 k t254 l0 (l0.length : Int) 0)
theorem span_Bytes.mono_l : ∀ k, (∀ y0 y1 y2 y3, LeO (span_Bytes.l0 k y0 y1 y2 y3) (span_Bytes.l0 (k + 1) y0 y1 y2 y3))
  | 0 => fun _ _ _ _ r h => by simp [span_Bytes.l0] at h
  | k + 1 => by
    have ih0 := span_Bytes.mono_l k
    · intro y0 y1 y2 y3
      unfold span_Bytes.l0
      repeat' first
      | (with_reducible exact ih0 _ _ _ _)
      | (with_reducible exact LeO.refl _)
      | (with_reducible exact LeO.none _)
      | (with_reducible refine LeO.ite ?_ ?_)
      | (with_reducible refine LeO.bind ?_ (fun _ => ?_))
      | exact ih0 _ _ _ _
      | exact LeO.none _
      | refine LeO.ite ?_ ?_
      | refine LeO.bind ?_ (fun _ => ?_)
theorem span_Bytes.mono : ∀ a0 k, LeO (span_Bytes.f k a0) (span_Bytes.f (k + 1) a0) := by
  intro a0 k
  have ih0 := span_Bytes.mono_l k
  unfold span_Bytes.f
  repeat' first
      | (with_reducible exact ih0 _ _ _ _)
      | (with_reducible exact LeO.refl _)
      | (with_reducible exact LeO.none _)
      | (with_reducible refine LeO.ite ?_ ?_)
      | (with_reducible refine LeO.bind ?_ (fun _ => ?_))
      | exact ih0 _ _ _ _
      | exact LeO.none _
      | refine LeO.ite ?_ ?_
      | refine LeO.bind ?_ (fun _ => ?_)
def span_Bytes.T5 : Bool × List (List Nat × List Nat) := (true, [([], []), ([], []), ([1], [1]), ([2], [2]), ([], []), ([4], [4]), ([5, 3], [5]), ([3, 6], [3, 6]), ([], []), ([8], [8]), ([], []), ([10], [10]), ([9, 11], [9, 11]), ([12], [12]), ([13, 6], [13]), ([7, 14], [7, 14]), ([0, 15], [0, 15]), ([16, 14, 0, 1, 2, 3, 4, 5, 6, 7, 8, 9, 10, 11, 12, 13, 14, 15, 16], [0, 16])])
def span_Bytes.B5 : List Nat := [0, 0, 2, 6, 0, 16, 62, 126, 0, 256, 0, 1024, 3840, 7936, 16254, 32766, 65535, 131071]
theorem span_Bytes.tab5 : rtab .any (opsOf Try.f21 5) = span_Bytes.T5 := by kernel_rfl
theorem span_Bytes.bits5 : waitsOk span_Bytes.T5.2 span_Bytes.B5 = true := by kernel_rfl
set_option maxHeartbeats 8000000 in
set_option maxRecDepth 100000 in
theorem span_Bytes.calls (k : Nat) (A0 : Option Addr) (c0 : Nat) (l0 : List (S25)) (r : ByteArray) (w : World) (hr0 : Kd.C k25 w A0 l0.length l0) (hc0 : l0.length ≤ c0) (h : span_Bytes.f k l0 = some r) :
    Calls Try.prog 21 #[.slice A0 l0.length c0] w fun e w' => e = .returned (.string r) ∧ Below w.heap.size w w' := by
  have hu25 := Try.underlying25
  have HR0 := Aside0.mk hr0
  have HC0 := Aside0.mk hc0
  clear hr0 hc0
  have HB := Aside0.mk (Below.refl w.heap.size w)
  have H : ((code_Number.f (IntKind.u64.wrap ((l0.length : Int)))).bind fun t254 => (span_Bytes.l0 k t254 l0 (l0.length : Int) 0)) = some r := h
  clear h
  replace H := Option.bind_eq_some_iff.mp H
  obtain ⟨t254, A20, H⟩ := H
  replace H : (span_Bytes.l0 k t254 l0 (l0.length : Int) 0) = some r := H
  have A2 := Aside0.mk A20
  clear A20
  have H' := Aside0.mk H
  clear H
  go_enter Try.func21, Try.ntmps21
  go_wp2_with (first | ((with_reducible refine gate_callee (f := 41) rfl ?_); refine goesL_ (some 9) rfl rfl Try.func41 (by kernel_rfl) rfl #[.int .u64 (IntKind.u64.wrap ((l0.length : Int)))] rfl (by (try simp only [List.map_toArray, List.map_cons, List.map_nil]); first | done | rfl | (simp only [List.length_drop, List.length_take]; rfl)) ?_; (with_reducible refine (code_Number.calls (IntKind.u64.wrap ((l0.length : Int))) t254 _ A2.out).mono ?_); rintro e w3 ⟨rfl, hb⟩; refine ⟨_, rfl, ?_⟩; have n0_ := Aside0.mk (below_step (by repeat (first | (with_reducible first | exact HB.out | apply below_alloc | apply pw_below_drewN | apply below_drew1) | exact HB.out)) hb); clear HB; have HB := n0_; clear n0_; (try clear hb); (try clear hb2); (try clear hk); (try clear hi)))
  go_loopg [3, 12] k (fun kq v3 v12 w' => ∃ (x3_1 : ByteArray) (x12_1 : Int), v3 = .string x3_1 ∧ v12 = .int .i64 x12_1 ∧ Aside0 (span_Bytes.l0 kq x3_1 l0 (l0.length : Int) x12_1 = some r) ∧ Aside0 (kq ≤ k) ∧ Aside0 (Below w.heap.size w w'))
  case atStart => exact ⟨(t254), (0), (by first | rfl | (simp; done) | (simp [*]; done)), (by first | rfl | (simp; done) | (simp [*]; done)), H', ⟨Nat.le_refl _⟩, ⟨by repeat (first | (with_reducible first | exact HB.out | apply below_alloc | apply pw_below_drewN | apply below_drew1) | exact HB.out)⟩⟩
  case round =>
    clear H'
    try clear c2
    try clear p2
    obtain ⟨x3_1, x12_1, rfl, rfl, HA, HK1, HB⟩ := hrel
    cases gk with
    | zero => exact absurd HA.out (by simp [span_Bytes.l0])
    | succ k1 =>
      have H := HA.out
      clear HA
      simp only [span_Bytes.l0] at H
      by_cases c4 : x12_1 < (l0.length : Int)
      · rw [if_pos c4] at H
        have c4b0 : decide (x12_1 < (l0.length : Int)) = true := decide_eq_true c4
        clear c4
        by_cases c5 : 0 ≤ x12_1
        · rw [if_pos c5] at H
          have c5b0 : decide (0 ≤ x12_1) = true := decide_eq_true c5
          clear c5
          by_cases c6 : x12_1 < (l0.length : Int)
          · rw [if_pos c6] at H
            have c6b0 : decide (x12_1 < (l0.length : Int)) = true := decide_eq_true c6
            clear c6
            replace H := Option.bind_eq_some_iff.mp H
            obtain ⟨t257, A70, H⟩ := H
            replace H : ((code_Signed.f ((rd_T25 l0 x12_1).f1)).bind fun t258 => (if t257.size + t258.size ≤ 9223372036854775807 then ((code_Number.f (IntKind.u64.wrap (wrap64 (((rd_T25 l0 x12_1).f2) - ((rd_T25 l0 x12_1).f1))))).bind fun t259 => (if (t257 ++ t258).size + t259.size ≤ 9223372036854775807 then (if x3_1.size + ((t257 ++ t258) ++ t259).size ≤ 9223372036854775807 then (span_Bytes.l0 k1 (x3_1 ++ ((t257 ++ t258) ++ t259)) l0 (l0.length : Int) (wrap64 (x12_1 + 1))) else (none)) else (none))) else (none))) = some r := H
            have A7 := Aside0.mk A70
            clear A70
            replace H := Option.bind_eq_some_iff.mp H
            obtain ⟨t258, A80, H⟩ := H
            replace H : (if t257.size + t258.size ≤ 9223372036854775807 then ((code_Number.f (IntKind.u64.wrap (wrap64 (((rd_T25 l0 x12_1).f2) - ((rd_T25 l0 x12_1).f1))))).bind fun t259 => (if (t257 ++ t258).size + t259.size ≤ 9223372036854775807 then (if x3_1.size + ((t257 ++ t258) ++ t259).size ≤ 9223372036854775807 then (span_Bytes.l0 k1 (x3_1 ++ ((t257 ++ t258) ++ t259)) l0 (l0.length : Int) (wrap64 (x12_1 + 1))) else (none)) else (none))) else (none)) = some r := H
            have A8 := Aside0.mk A80
            clear A80
            by_cases c9 : t257.size + t258.size ≤ 9223372036854775807
            · rw [if_pos c9] at H
              have c9b0 := eq_true c9
              have c9b1 : decide (t257.size + t258.size ≤ 9223372036854775807) = true := decide_eq_true c9
              try have c9b2 : (9223372036854775807 < t257.size + t258.size) = False := eq_false (Nat.not_lt.2 c9)
              replace H := Option.bind_eq_some_iff.mp H
              obtain ⟨t259, A100, H⟩ := H
              replace H : (if (t257 ++ t258).size + t259.size ≤ 9223372036854775807 then (if x3_1.size + ((t257 ++ t258) ++ t259).size ≤ 9223372036854775807 then (span_Bytes.l0 k1 (x3_1 ++ ((t257 ++ t258) ++ t259)) l0 (l0.length : Int) (wrap64 (x12_1 + 1))) else (none)) else (none)) = some r := H
              have A10 := Aside0.mk A100
              clear A100
              by_cases c11 : (t257 ++ t258).size + t259.size ≤ 9223372036854775807
              · rw [if_pos c11] at H
                have c11b0 := eq_true c11
                have c11b1 : decide ((t257 ++ t258).size + t259.size ≤ 9223372036854775807) = true := decide_eq_true c11
                have c11s : ((t257 ++ t258).size + t259.size ≤ 9223372036854775807) ∧ True := ⟨c11, trivial⟩
                simp only [ByteArray.size_append] at c11s
                have c11t := eq_false (Nat.not_lt.2 c11s.1)
                clear c11s
                try have c11b2 : (9223372036854775807 < (t257 ++ t258).size + t259.size) = False := eq_false (Nat.not_lt.2 c11)
                by_cases c12 : x3_1.size + ((t257 ++ t258) ++ t259).size ≤ 9223372036854775807
                · rw [if_pos c12] at H
                  have c12b0 := eq_true c12
                  have c12b1 : decide (x3_1.size + ((t257 ++ t258) ++ t259).size ≤ 9223372036854775807) = true := decide_eq_true c12
                  have c12s : (x3_1.size + ((t257 ++ t258) ++ t259).size ≤ 9223372036854775807) ∧ True := ⟨c12, trivial⟩
                  simp only [ByteArray.size_append] at c12s
                  have c12t := eq_false (Nat.not_lt.2 c12s.1)
                  clear c12s
                  try have c12b2 : (9223372036854775807 < x3_1.size + ((t257 ++ t258) ++ t259).size) = False := eq_false (Nat.not_lt.2 c12)
                  have H' := Aside0.mk H
                  clear H
                  have p255 : 0 ≤ (x12_1 : Int) := of_decide_eq_true (by first | (with_reducible assumption) | assumption)
                  have q255 : x12_1 < (l0.length : Int) := of_decide_eq_true (by first | (with_reducible assumption) | assumption)
                  obtain ⟨ad255, e255, hx255_0, hx255_1, hx255_2⟩ := at_T25 HR0.out x12_1 p255 q255
                  cases e255
                  replace hx255_0 := (HB.out.cell (World.block_lt_of_cell? w _ hx255_0)).trans hx255_0
                  replace hx255_1 := (HB.out.cell (World.block_lt_of_cell? w _ hx255_1)).trans hx255_1
                  replace hx255_2 := (HB.out.cell (World.block_lt_of_cell? w _ hx255_2)).trans hx255_2
                  replace p255 := eq_true p255
                  replace q255 := eq_true q255
                  try go_wp2_with (first | ((with_reducible refine gate_dst (N := 5) rfl ?_); refine box_event ?hg (N := 5) ?hd (cs := #[.string (⟨#[]⟩ : ByteArray), .int .i64 0, .int .i64 0]) (t := 25) ?hr ?_; (case hd => rfl); (case hg => rfl); (case hr => first | (go_simp; done) | (go_simp; rfl)); intro gb256 hg w13 hbox hb; have n0_ := Aside0.mk (below_step (by repeat (first | (with_reducible first | exact HB.out | apply below_alloc | apply pw_below_drewN | apply below_drew1) | exact HB.out)) hb); have n1_ := Aside0.mk (hbox); have n2_ := Aside0.mk ((by rw [hg]; exact (below_size (by repeat (first | (with_reducible first | exact HB.out | apply below_alloc | apply pw_below_drewN | apply below_drew1) | exact HB.out))) : w.heap.size ≤ gb256)); have n3_ := Aside0.mk ((by rw [hg]; exact (below_size (by repeat (first | (with_reducible first | exact HB.out | apply below_alloc | apply pw_below_drewN | apply below_drew1) | exact HB.out))) : w.heap.size ≤ gb256)); clear HB; have HB := n0_; have BK256 := n1_; have GW256 := n2_; have GE256 := n3_; clear n0_ n1_ n2_ n3_; clear hb hbox hg; have hcz14_0 : w13.cell? ⟨gb256, 0, none⟩ = some (.string (⟨#[]⟩ : ByteArray)) := (blk_cell BK256.out 0).trans rfl; have hcz14_1 : w13.cell? ⟨gb256, 1, none⟩ = some (.int .i64 0) := (blk_cell BK256.out 1).trans rfl; have hcz14_2 : w13.cell? ⟨gb256, 2, none⟩ = some (.int .i64 0) := (blk_cell BK256.out 2).trans rfl; have hfz14_0 := blk_frozen BK256.out 0; have hfz14_1 := blk_frozen BK256.out 1; have hfz14_2 := blk_frozen BK256.out 2))
                  have n0_ : Aside0 ((((w13.setCell ⟨gb256, 0, none⟩ (.string ((rd_T25 l0 x12_1).f0))).setCell ⟨gb256, 1, none⟩ (.int .i64 ((rd_T25 l0 x12_1).f1))).setCell ⟨gb256, 2, none⟩ (.int .i64 ((rd_T25 l0 x12_1).f2))).heap[gb256]? = some (.cells #[.string ((rd_T25 l0 x12_1).f0), .int .i64 ((rd_T25 l0 x12_1).f1), .int .i64 ((rd_T25 l0 x12_1).f2)] 25 (0, 0))) := ⟨by (with_reducible repeat (first | refine blk_drewN ?_ _ | refine blk_drew ?_ | refine blk_alloc ?_ _)); refine blk_put (cs := #[.string ((rd_T25 l0 x12_1).f0), .int .i64 ((rd_T25 l0 x12_1).f1), .int .i64 0]) ?_ 2 _ rfl; (with_reducible repeat (first | refine blk_drewN ?_ _ | refine blk_drew ?_ | refine blk_alloc ?_ _)); refine blk_put (cs := #[.string ((rd_T25 l0 x12_1).f0), .int .i64 0, .int .i64 0]) ?_ 1 _ rfl; (with_reducible repeat (first | refine blk_drewN ?_ _ | refine blk_drew ?_ | refine blk_alloc ?_ _)); refine blk_put (cs := #[.string (⟨#[]⟩ : ByteArray), .int .i64 0, .int .i64 0]) ?_ 0 _ rfl; (with_reducible repeat (first | refine blk_drewN ?_ _ | refine blk_drew ?_ | refine blk_alloc ?_ _)); exact BK256.out⟩
                  have n1_ : Aside0 (Below w.heap.size w (((w13.setCell ⟨gb256, 0, none⟩ (.string ((rd_T25 l0 x12_1).f0))).setCell ⟨gb256, 1, none⟩ (.int .i64 ((rd_T25 l0 x12_1).f1))).setCell ⟨gb256, 2, none⟩ (.int .i64 ((rd_T25 l0 x12_1).f2)))) := ⟨by repeat (first | (with_reducible first | exact HB.out | apply below_alloc | apply pw_below_drewN | apply below_drew1 | refine below_set ?_ GE256.out) | exact HB.out)⟩
                  (try clear BK256)
                  (try clear HB)
                  generalize (((w13.setCell ⟨gb256, 0, none⟩ (.string ((rd_T25 l0 x12_1).f0))).setCell ⟨gb256, 1, none⟩ (.int .i64 ((rd_T25 l0 x12_1).f1))).setCell ⟨gb256, 2, none⟩ (.int .i64 ((rd_T25 l0 x12_1).f2))) = w15 at n0_ n1_ ⊢
                  have BK256 := n0_
                  have HB := n1_
                  clear n0_ n1_
                  have n0_ := Aside0.mk (blk_drew BK256.out)
                  have n1_ := Aside0.mk (below_drew1 HB.out)
                  clear BK256
                  clear HB
                  have BK256 := n0_
                  have HB := n1_
                  clear n0_ n1_
                  refine start_ (n := 18) (S := fun w' => w'.cell? ⟨gb256, 0, none⟩ = some (.string ((rd_T25 l0 x12_1).f0)) ∧ w'.cell? ⟨gb256, 1, none⟩ = some (.int .i64 ((rd_T25 l0 x12_1).f1)) ∧ w'.cell? ⟨gb256, 2, none⟩ = some (.int .i64 ((rd_T25 l0 x12_1).f2))) (ds := []) #[false, false, false, false, false, false, false, false, false, false, false, false, false, false, false, false, false, false] (by kernel_rfl) rfl rfl ⟨(blk_cell BK256.out 0).trans rfl, (blk_cell BK256.out 1).trans rfl, (blk_cell BK256.out 2).trans rfl⟩ (fun hHeld => ?_); refine with_tabW span_Bytes.tab5 span_Bytes.bits5 (fun HT_ HW_ => ?_)
                  generalize w15.drew = w16 at BK256 HB hHeld ⊢
                  refine pure_ (i := 0) (N := some 16) (v := ?_) (a' := ?_) #[true, false, false, false, false, false, false, false, false, false, false, false, false, false, false, false, false, false] rfl rfl (any_of HT_.out (by kernel_rfl)) (fun _ _ _ h => h) (Or.inl ⟨by rfl, ?_⟩) ?_ ?_
                  rotate_left
                  · intro w'
                    go_simp
                    with_reducible rfl
                  rotate_left
                  · simp only [Act.put, List.setIfInBounds_toArray, List.set_cons_zero, List.set_cons_succ, i64_w, i32_w]
                    rfl
                  refine pure_ (i := 1) (N := some 17) (v := ?_) (a' := ?_) #[true, true, false, false, false, false, false, false, false, false, false, false, false, false, false, false, false, false] rfl rfl (any_of HT_.out (by kernel_rfl)) (fun _ _ _ h => h) (Or.inl ⟨by rfl, ?_⟩) ?_ ?_
                  rotate_left
                  · intro w'
                    go_simp
                    with_reducible rfl
                  rotate_left
                  · simp only [Act.put, List.setIfInBounds_toArray, List.set_cons_zero, List.set_cons_succ, i64_w, i32_w]
                    rfl
                  refine pure_ (i := 4) (N := some 20) (v := ?_) (a' := ?_) #[true, true, false, false, true, false, false, false, false, false, false, false, false, false, false, false, false, false] rfl rfl (any_of HT_.out (by kernel_rfl)) (fun _ _ _ h => h) (Or.inl ⟨by rfl, ?_⟩) ?_ ?_
                  rotate_left
                  · intro w'
                    go_simp
                    with_reducible rfl
                  rotate_left
                  · simp only [Act.put, List.setIfInBounds_toArray, List.set_cons_zero, List.set_cons_succ, i64_w, i32_w]
                    rfl
                  refine pure_ (i := 8) (N := some 24) (v := ?_) (a' := ?_) #[true, true, false, false, true, false, false, false, true, false, false, false, false, false, false, false, false, false] rfl rfl (any_of HT_.out (by kernel_rfl)) (fun _ _ _ h => h) (Or.inl ⟨by rfl, ?_⟩) ?_ ?_
                  rotate_left
                  · intro w'
                    go_simp
                    with_reducible rfl
                  rotate_left
                  · simp only [Act.put, List.setIfInBounds_toArray, List.set_cons_zero, List.set_cons_succ, i64_w, i32_w]
                    rfl
                  refine pure_ (i := 10) (N := some 26) (v := ?_) (a' := ?_) #[true, true, false, false, true, false, false, false, true, false, true, false, false, false, false, false, false, false] rfl rfl (any_of HT_.out (by kernel_rfl)) (fun _ _ _ h => h) (Or.inl ⟨by rfl, ?_⟩) ?_ ?_
                  rotate_left
                  · intro w'
                    go_simp
                    with_reducible rfl
                  rotate_left
                  · simp only [Act.put, List.setIfInBounds_toArray, List.set_cons_zero, List.set_cons_succ, i64_w, i32_w]
                    rfl
                  refine take_ (i := 2) (N := some 18) (v := ?_) (a' := ?_) #[true, true, true, false, true, false, false, false, true, false, true, false, false, false, false, false, false, false] rfl rfl (take_ofW HT_.out HW_.out (by kernel_rfl)) (fun _ _ _ h => h) (Or.inl ⟨by rfl, ?_⟩) hHeld ?_ ?_
                  rotate_left
                  · rintro w' ⟨s0, s1, s2⟩
                    go_simp
                    with_reducible rfl
                  rotate_left
                  · simp only [Act.put, List.setIfInBounds_toArray, List.set_cons_zero, List.set_cons_succ, i64_w, i32_w]
                    rfl
                  refine take_ (i := 5) (N := some 21) (v := ?_) (a' := ?_) #[true, true, true, false, true, true, false, false, true, false, true, false, false, false, false, false, false, false] rfl rfl (take_ofW HT_.out HW_.out (by kernel_rfl)) (fun _ _ _ h => h) (Or.inl ⟨by rfl, ?_⟩) hHeld ?_ ?_
                  rotate_left
                  · rintro w' ⟨s0, s1, s2⟩
                    go_simp
                    with_reducible rfl
                  rotate_left
                  · simp only [Act.put, List.setIfInBounds_toArray, List.set_cons_zero, List.set_cons_succ, i64_w, i32_w]
                    rfl
                  refine take_ (i := 9) (N := some 25) (v := ?_) (a' := ?_) #[true, true, true, false, true, true, false, false, true, true, true, false, false, false, false, false, false, false] rfl rfl (take_ofW HT_.out HW_.out (by kernel_rfl)) (fun _ _ _ h => h) (Or.inl ⟨by rfl, ?_⟩) hHeld ?_ ?_
                  rotate_left
                  · rintro w' ⟨s0, s1, s2⟩
                    go_simp
                    with_reducible rfl
                  rotate_left
                  · simp only [Act.put, List.setIfInBounds_toArray, List.set_cons_zero, List.set_cons_succ, i64_w, i32_w]
                    rfl
                  refine take_ (i := 11) (N := some 27) (v := ?_) (a' := ?_) #[true, true, true, false, true, true, false, false, true, true, true, true, false, false, false, false, false, false] rfl rfl (take_ofW HT_.out HW_.out (by kernel_rfl)) (fun _ _ _ h => h) (Or.inl ⟨by rfl, ?_⟩) hHeld ?_ ?_
                  rotate_left
                  · rintro w' ⟨s0, s1, s2⟩
                    go_simp
                    with_reducible rfl
                  rotate_left
                  · simp only [Act.put, List.setIfInBounds_toArray, List.set_cons_zero, List.set_cons_succ, i64_w, i32_w]
                    rfl
                  refine pure_ (i := 12) (N := some 28) (v := ?_) (a' := ?_) #[true, true, true, false, true, true, false, false, true, true, true, true, true, false, false, false, false, false] rfl rfl (any_of HT_.out (by kernel_rfl)) (fun _ _ _ h => h) (Or.inl ⟨by rfl, ?_⟩) ?_ ?_
                  rotate_left
                  · intro w'
                    go_simp
                    with_reducible rfl
                  rotate_left
                  · simp only [Act.put, List.setIfInBounds_toArray, List.set_cons_zero, List.set_cons_succ, i64_w, i32_w]
                    rfl
                  refine pure_ (i := 13) (N := some 29) (v := ?_) (a' := ?_) #[true, true, true, false, true, true, false, false, true, true, true, true, true, true, false, false, false, false] rfl rfl (any_of HT_.out (by kernel_rfl)) (fun _ _ _ h => h) (Or.inl ⟨by rfl, ?_⟩) ?_ ?_
                  rotate_left
                  · intro w'
                    go_simp
                    with_reducible rfl
                  rotate_left
                  · simp only [Act.put, List.setIfInBounds_toArray, List.set_cons_zero, List.set_cons_succ, i64_w, i32_w]
                    rfl
                  refine one_ (i := 3) (N := some 19) #[true, true, true, true, true, true, false, false, true, true, true, true, true, true, false, false, false, false] rfl rfl (one_of HT_.out (by kernel_rfl)) (by decide) (fun K hK => ?_)
                  refine goes_ Try.func42 (by kernel_rfl) rfl #[.string ((rd_T25 l0 x12_1).f0)] (by rfl) rfl rfl (by (try simp only [List.map_toArray, List.map_cons, List.map_nil]); first | done | rfl | (simp only [List.length_drop, List.length_take]; rfl)) ?_
                  with_reducible refine (code_Text.calls ((rd_T25 l0 x12_1).f0) t257 _ A7.out).mono ?_
                  rintro e w17 ⟨rfl, hb⟩
                  refine ⟨_, rfl, ?_⟩
                  have n0_ := Aside0.mk (blk_below (g := gb256) (o := .cells #[.string ((rd_T25 l0 x12_1).f0), .int .i64 ((rd_T25 l0 x12_1).f1), .int .i64 ((rd_T25 l0 x12_1).f2)] 25 (0, 0)) (by (with_reducible repeat (first | refine blk_drewN ?_ _ | refine blk_drew ?_ | refine blk_alloc ?_ _)); exact BK256.out) hb)
                  have n1_ := Aside0.mk (below_step (by repeat (first | (with_reducible first | exact HB.out | apply below_alloc | apply pw_below_drewN | apply below_drew1 | refine below_set ?_ GE256.out) | exact HB.out)) hb)
                  clear BK256
                  clear HB
                  have BK256 := n0_
                  have HB := n1_
                  clear n0_ n1_
                  (try clear hb)
                  (try clear hb2)
                  (try clear hk)
                  (try clear hi)
                  refine hK.out _ _ ⟨(blk_cell BK256.out 0).trans rfl, (blk_cell BK256.out 1).trans rfl, (blk_cell BK256.out 2).trans rfl⟩ (fun hHeld => ?_)
                  clear hK K
                  refine norm_ (a' := ?_) ?_ ?_
                  rotate_left
                  · show Act.put _ (some 19) _ = _
                    simp only [Act.put, List.setIfInBounds_toArray, List.set_cons_zero, List.set_cons_succ, i64_w, i32_w]
                    rfl
                  refine one_ (i := 6) (N := some 22) #[true, true, true, true, true, true, true, false, true, true, true, true, true, true, false, false, false, false] rfl rfl (one_of HT_.out (by kernel_rfl)) (by decide) (fun K hK => ?_)
                  refine goes_ Try.func43 (by kernel_rfl) rfl #[.int .i64 ((rd_T25 l0 x12_1).f1)] (by rfl) rfl rfl (by (try simp only [List.map_toArray, List.map_cons, List.map_nil]); first | done | rfl | (simp only [List.length_drop, List.length_take]; rfl)) ?_
                  with_reducible refine (code_Signed.calls ((rd_T25 l0 x12_1).f1) t258 _ A8.out).mono ?_
                  rintro e w18 ⟨rfl, hb⟩
                  refine ⟨_, rfl, ?_⟩
                  have n0_ := Aside0.mk (blk_below (g := gb256) (o := .cells #[.string ((rd_T25 l0 x12_1).f0), .int .i64 ((rd_T25 l0 x12_1).f1), .int .i64 ((rd_T25 l0 x12_1).f2)] 25 (0, 0)) (by (with_reducible repeat (first | refine blk_drewN ?_ _ | refine blk_drew ?_ | refine blk_alloc ?_ _)); exact BK256.out) hb)
                  have n1_ := Aside0.mk (below_step (by repeat (first | (with_reducible first | exact HB.out | apply below_alloc | apply pw_below_drewN | apply below_drew1 | refine below_set ?_ GE256.out) | exact HB.out)) hb)
                  clear BK256
                  clear HB
                  have BK256 := n0_
                  have HB := n1_
                  clear n0_ n1_
                  (try clear hb)
                  (try clear hb2)
                  (try clear hk)
                  (try clear hi)
                  refine hK.out _ _ ⟨(blk_cell BK256.out 0).trans rfl, (blk_cell BK256.out 1).trans rfl, (blk_cell BK256.out 2).trans rfl⟩ (fun hHeld => ?_)
                  clear hK K
                  refine norm_ (a' := ?_) ?_ ?_
                  rotate_left
                  · show Act.put _ (some 22) _ = _
                    simp only [Act.put, List.setIfInBounds_toArray, List.set_cons_zero, List.set_cons_succ, i64_w, i32_w]
                    rfl
                  refine pure_ (i := 7) (N := some 23) (v := ?_) (a' := ?_) #[true, true, true, true, true, true, true, true, true, true, true, true, true, true, false, false, false, false] rfl rfl (any_of HT_.out (by kernel_rfl)) (fun _ _ _ h => h) (Or.inl ⟨by rfl, ?_⟩) ?_ ?_
                  rotate_left
                  · intro w'
                    go_simp
                    with_reducible rfl
                  rotate_left
                  · simp only [Act.put, List.setIfInBounds_toArray, List.set_cons_zero, List.set_cons_succ, i64_w, i32_w]
                    rfl
                  refine one_ (i := 14) (N := some 30) #[true, true, true, true, true, true, true, true, true, true, true, true, true, true, true, false, false, false] rfl rfl (one_of HT_.out (by kernel_rfl)) (by decide) (fun K hK => ?_)
                  refine goes_ Try.func41 (by kernel_rfl) rfl #[.int .u64 (IntKind.u64.wrap (wrap64 (((rd_T25 l0 x12_1).f2) - ((rd_T25 l0 x12_1).f1))))] (by rfl) rfl rfl (by (try simp only [List.map_toArray, List.map_cons, List.map_nil]); first | done | rfl | (simp only [List.length_drop, List.length_take]; rfl)) ?_
                  with_reducible refine (code_Number.calls (IntKind.u64.wrap (wrap64 (((rd_T25 l0 x12_1).f2) - ((rd_T25 l0 x12_1).f1)))) t259 _ A10.out).mono ?_
                  rintro e w19 ⟨rfl, hb⟩
                  refine ⟨_, rfl, ?_⟩
                  have n0_ := Aside0.mk (blk_below (g := gb256) (o := .cells #[.string ((rd_T25 l0 x12_1).f0), .int .i64 ((rd_T25 l0 x12_1).f1), .int .i64 ((rd_T25 l0 x12_1).f2)] 25 (0, 0)) (by (with_reducible repeat (first | refine blk_drewN ?_ _ | refine blk_drew ?_ | refine blk_alloc ?_ _)); exact BK256.out) hb)
                  have n1_ := Aside0.mk (below_step (by repeat (first | (with_reducible first | exact HB.out | apply below_alloc | apply pw_below_drewN | apply below_drew1 | refine below_set ?_ GE256.out) | exact HB.out)) hb)
                  clear BK256
                  clear HB
                  have BK256 := n0_
                  have HB := n1_
                  clear n0_ n1_
                  (try clear hb)
                  (try clear hb2)
                  (try clear hk)
                  (try clear hi)
                  refine hK.out _ _ ⟨(blk_cell BK256.out 0).trans rfl, (blk_cell BK256.out 1).trans rfl, (blk_cell BK256.out 2).trans rfl⟩ (fun hHeld => ?_)
                  clear hK K
                  refine norm_ (a' := ?_) ?_ ?_
                  rotate_left
                  · show Act.put _ (some 30) _ = _
                    simp only [Act.put, List.setIfInBounds_toArray, List.set_cons_zero, List.set_cons_succ, i64_w, i32_w]
                    rfl
                  refine pure_ (i := 15) (N := some 31) (v := ?_) (a' := ?_) #[true, true, true, true, true, true, true, true, true, true, true, true, true, true, true, true, false, false] rfl rfl (any_of HT_.out (by kernel_rfl)) (fun _ _ _ h => h) (Or.inl ⟨by rfl, ?_⟩) ?_ ?_
                  rotate_left
                  · intro w'
                    go_simp
                    with_reducible rfl
                  rotate_left
                  · simp only [Act.put, List.setIfInBounds_toArray, List.set_cons_zero, List.set_cons_succ, i64_w, i32_w]
                    rfl
                  refine pure_ (i := 16) (N := some 32) (v := ?_) (a' := ?_) #[true, true, true, true, true, true, true, true, true, true, true, true, true, true, true, true, true, false] rfl rfl (any_of HT_.out (by kernel_rfl)) (fun _ _ _ h => h) (Or.inl ⟨by rfl, ?_⟩) ?_ ?_
                  rotate_left
                  · intro w'
                    go_simp
                    with_reducible rfl
                  rotate_left
                  · simp only [Act.put, List.setIfInBounds_toArray, List.set_cons_zero, List.set_cons_succ, i64_w, i32_w]
                    rfl
                  refine pure_ (i := 17) (N := some 3) (v := ?_) (a' := ?_) #[true, true, true, true, true, true, true, true, true, true, true, true, true, true, true, true, true, true] rfl rfl (any_of HT_.out (by kernel_rfl)) (fun _ _ _ h => h) (Or.inl ⟨by rfl, ?_⟩) ?_ ?_
                  rotate_left
                  · intro w'
                    go_simp
                    with_reducible rfl
                  rotate_left
                  · simp only [Act.put, List.setIfInBounds_toArray, List.set_cons_zero, List.set_cons_succ, i64_w, i32_w]
                    rfl
                  refine done_ (done_of HT_.out (by kernel_rfl)) ?_
                  try go_wp2
                  go_roundg k1
                  case measure => have := HK1.out; omega
                  case rel => exact ⟨(x3_1 ++ ((t257 ++ t258) ++ t259)), (wrap64 (x12_1 + 1)), (by first | rfl | (simp; done) | (simp [*]; done)), (by first | rfl | (simp; done) | (simp [*]; done)), H', ⟨by have := HK1.out; omega⟩, ⟨by repeat (first | (with_reducible first | exact HB.out | apply below_alloc | apply pw_below_drewN | apply below_drew1 | refine below_set ?_ GE256.out) | exact HB.out)⟩⟩
                · rw [if_neg c12] at H
                  exact absurd H (by simp)
              · rw [if_neg c11] at H
                exact absurd H (by simp)
            · rw [if_neg c9] at H
              exact absurd H (by simp)
          · rw [if_neg c6] at H
            exact absurd H (by simp)
        · rw [if_neg c5] at H
          exact absurd H (by simp)
      · rw [if_neg c4] at H
        have c4b0 : decide (x12_1 < (l0.length : Int)) = false := decide_eq_false c4
        clear c4
        obtain rfl := Option.some.inj H
        go_wp2
        go_ret
        exact ⟨by first | rfl | (simp [errW_none, errW_some] <;> rfl) | (simp [*, errW_none, errW_some] <;> rfl), by repeat (first | (with_reducible first | exact HB.out | apply below_alloc | apply pw_below_drewN | apply below_drew1) | exact HB.out)⟩

end Go.Proofs.Ythcoiabgemclbaa.PD
-- written by a program of this work (mk.sh, over the kit's print; stubs are proved by hand)
namespace Go.Proofs.Ythcoiabgemclbaa.PD
open Go.RowKit Go.Proofs.YthcoiabgemclbaaW.PrintWords Go.Proofs.YthcoiabgemclbaaW.PrintLast Go.Proofs.YthcoiabgemclbaaW.PrintMore
attribute [local go_sem] isSome_setCell max2_int min2_int max_two min_two max_three min_three max_four min_four   -- for this text's walks alone
set_option linter.unusedVariables false
set_option linter.unusedSimpArgs false

/-! ### almanaclaw19_awake: function 6 -/
def almanaclaw19_awake.f (k : Nat)  : Option (Bool) := (span_Put.f ([] : List (S25)) (⟨#[97]⟩ : ByteArray) 5 9).bind fun t260 => ((span_Put.f t260 (⟨#[98]⟩ : ByteArray) 1 2).bind fun t263 => (if (t263.length : Int) = 2 then (if 0 < (t263.length : Int) then (if ((rd_T25 t263 0).f0).toList = ([98] : List UInt8) then ((span_Over.f t263 2 5).bind fun t267 => ((almanacref08_Texts.f k t267 (([(⟨#[98]⟩ : ByteArray)] : List ByteArray))).bind fun t273 => (if t273 = true then ((span_Over.f t263 9 10).bind fun t274 => ((almanacref08_Texts.f k t274 (([(⟨#[97]⟩ : ByteArray)] : List ByteArray))).bind fun t280 => (if t280 = true then ((span_Bytes.f k ([] : List (S25))).bind fun t281 => (if t281.toList = ([0] : List UInt8) then ((span_Drop.f t263 (⟨#[98]⟩ : ByteArray)).bind fun t282 => (if (t282.length : Int) = 1 then ((span_Fit.f t263).bind fun t285 => (some t285)) else (some false))) else (some false))) else (some false)))) else (some false)))) else (some false)) else (none)) else (some false)))
theorem almanaclaw19_awake.mono : ∀ k, LeO (almanaclaw19_awake.f k ) (almanaclaw19_awake.f (k + 1) ) := by
  intro  k
  unfold almanaclaw19_awake.f
  repeat' first
      | (with_reducible exact almanacref08_Texts.mono _ _ _)
      | (with_reducible exact span_Bytes.mono _ _)
      | (with_reducible exact LeO.refl _)
      | (with_reducible exact LeO.none _)
      | (with_reducible refine LeO.ite ?_ ?_)
      | (with_reducible refine LeO.bind ?_ (fun _ => ?_))
      | exact almanacref08_Texts.mono _ _ _
      | exact span_Bytes.mono _ _
      | exact LeO.none _
      | refine LeO.ite ?_ ?_
      | refine LeO.bind ?_ (fun _ => ?_)
set_option maxHeartbeats 8000000 in
set_option maxRecDepth 100000 in
theorem almanaclaw19_awake.callsT (k : Nat)  (r : Bool) (w : World) (h : almanaclaw19_awake.f k  = some r) (hr : r = true) :
    Calls Try.prog 6 #[] w fun e w' => e = .returned (.bool r) ∧ Below w.heap.size w w' := by
  have HRT := Aside0.mk hr
  clear hr
  have hu25 := Try.underlying25
  have HB := Aside0.mk (Below.refl w.heap.size w)
  have H : ((span_Put.f ([] : List (S25)) (⟨#[97]⟩ : ByteArray) 5 9).bind fun t260 => ((span_Put.f t260 (⟨#[98]⟩ : ByteArray) 1 2).bind fun t263 => (if (t263.length : Int) = 2 then (if 0 < (t263.length : Int) then (if ((rd_T25 t263 0).f0).toList = ([98] : List UInt8) then ((span_Over.f t263 2 5).bind fun t267 => ((almanacref08_Texts.f k t267 (([(⟨#[98]⟩ : ByteArray)] : List ByteArray))).bind fun t273 => (if t273 = true then ((span_Over.f t263 9 10).bind fun t274 => ((almanacref08_Texts.f k t274 (([(⟨#[97]⟩ : ByteArray)] : List ByteArray))).bind fun t280 => (if t280 = true then ((span_Bytes.f k ([] : List (S25))).bind fun t281 => (if t281.toList = ([0] : List UInt8) then ((span_Drop.f t263 (⟨#[98]⟩ : ByteArray)).bind fun t282 => (if (t282.length : Int) = 1 then ((span_Fit.f t263).bind fun t285 => (some t285)) else (some false))) else (some false))) else (some false)))) else (some false)))) else (some false)) else (none)) else (some false)))) = some r := h
  clear h
  replace H := Option.bind_eq_some_iff.mp H
  obtain ⟨t260, A10, H⟩ := H
  replace H : ((span_Put.f t260 (⟨#[98]⟩ : ByteArray) 1 2).bind fun t263 => (if (t263.length : Int) = 2 then (if 0 < (t263.length : Int) then (if ((rd_T25 t263 0).f0).toList = ([98] : List UInt8) then ((span_Over.f t263 2 5).bind fun t267 => ((almanacref08_Texts.f k t267 (([(⟨#[98]⟩ : ByteArray)] : List ByteArray))).bind fun t273 => (if t273 = true then ((span_Over.f t263 9 10).bind fun t274 => ((almanacref08_Texts.f k t274 (([(⟨#[97]⟩ : ByteArray)] : List ByteArray))).bind fun t280 => (if t280 = true then ((span_Bytes.f k ([] : List (S25))).bind fun t281 => (if t281.toList = ([0] : List UInt8) then ((span_Drop.f t263 (⟨#[98]⟩ : ByteArray)).bind fun t282 => (if (t282.length : Int) = 1 then ((span_Fit.f t263).bind fun t285 => (some t285)) else (some false))) else (some false))) else (some false)))) else (some false)))) else (some false)) else (none)) else (some false))) = some r := H
  have A1 := Aside0.mk A10
  clear A10
  replace H := Option.bind_eq_some_iff.mp H
  obtain ⟨t263, A20, H⟩ := H
  replace H : (if (t263.length : Int) = 2 then (if 0 < (t263.length : Int) then (if ((rd_T25 t263 0).f0).toList = ([98] : List UInt8) then ((span_Over.f t263 2 5).bind fun t267 => ((almanacref08_Texts.f k t267 (([(⟨#[98]⟩ : ByteArray)] : List ByteArray))).bind fun t273 => (if t273 = true then ((span_Over.f t263 9 10).bind fun t274 => ((almanacref08_Texts.f k t274 (([(⟨#[97]⟩ : ByteArray)] : List ByteArray))).bind fun t280 => (if t280 = true then ((span_Bytes.f k ([] : List (S25))).bind fun t281 => (if t281.toList = ([0] : List UInt8) then ((span_Drop.f t263 (⟨#[98]⟩ : ByteArray)).bind fun t282 => (if (t282.length : Int) = 1 then ((span_Fit.f t263).bind fun t285 => (some t285)) else (some false))) else (some false))) else (some false)))) else (some false)))) else (some false)) else (none)) else (some false)) = some r := H
  have A2 := Aside0.mk A20
  clear A20
  by_cases c3 : (t263.length : Int) = 2
  · rw [if_pos c3] at H
    have c3b0 : ((t263.length : Int) == 2) = true := beq_iff_eq.mpr c3
    have c3b1 : ((t263.length : Int) != 2) = false := bne_eq_false_iff_eq.mpr c3
    clear c3
    by_cases c4 : 0 < (t263.length : Int)
    · rw [if_pos c4] at H
      have c4b0 : decide (0 < (t263.length : Int)) = true := decide_eq_true c4
      have c4b1 : decide (0 < t263.length) = true := decide_eq_true (by omega)
      clear c4
      by_cases c5 : ((rd_T25 t263 0).f0).toList = ([98] : List UInt8)
      · rw [if_pos c5] at H
        have c5b0 : (((rd_T25 t263 0).f0).toList == ([98] : List UInt8)) = true := beq_iff_eq.mpr c5
        have c5b1 : (((rd_T25 t263 0).f0).toList != ([98] : List UInt8)) = false := bne_eq_false_iff_eq.mpr c5
        clear c5
        replace H := Option.bind_eq_some_iff.mp H
        obtain ⟨t267, A60, H⟩ := H
        replace H : ((almanacref08_Texts.f k t267 (([(⟨#[98]⟩ : ByteArray)] : List ByteArray))).bind fun t273 => (if t273 = true then ((span_Over.f t263 9 10).bind fun t274 => ((almanacref08_Texts.f k t274 (([(⟨#[97]⟩ : ByteArray)] : List ByteArray))).bind fun t280 => (if t280 = true then ((span_Bytes.f k ([] : List (S25))).bind fun t281 => (if t281.toList = ([0] : List UInt8) then ((span_Drop.f t263 (⟨#[98]⟩ : ByteArray)).bind fun t282 => (if (t282.length : Int) = 1 then ((span_Fit.f t263).bind fun t285 => (some t285)) else (some false))) else (some false))) else (some false)))) else (some false))) = some r := H
        have A6 := Aside0.mk A60
        clear A60
        obtain ⟨y270, hy270⟩ : ∃ y_ : List ByteArray, y_ = (([(⟨#[98]⟩ : ByteArray)] : List ByteArray)) := ⟨_, rfl⟩
        replace H : ((almanacref08_Texts.f k t267 y270).bind fun t273 => (if t273 = true then ((span_Over.f t263 9 10).bind fun t274 => ((almanacref08_Texts.f k t274 (([(⟨#[97]⟩ : ByteArray)] : List ByteArray))).bind fun t280 => (if t280 = true then ((span_Bytes.f k ([] : List (S25))).bind fun t281 => (if t281.toList = ([0] : List UInt8) then ((span_Drop.f t263 (⟨#[98]⟩ : ByteArray)).bind fun t282 => (if (t282.length : Int) = 1 then ((span_Fit.f t263).bind fun t285 => (some t285)) else (some false))) else (some false))) else (some false)))) else (some false))) = some r := by first | (rw [hy270]; with_reducible exact H) | (have H2_ := (Option.bind_some _ _).symm.trans H; rw [hy270]; with_reducible exact H2_) | (have H2_ := (Option.bind_some _ _).symm.trans H; with_reducible exact H2_) | with_reducible exact H | (rw [hy270]; exact H) | exact H
        have Ny270 := Aside0.mk hy270
        clear hy270
        replace H := Option.bind_eq_some_iff.mp H
        obtain ⟨t273, A70, H⟩ := H
        replace H : (if t273 = true then ((span_Over.f t263 9 10).bind fun t274 => ((almanacref08_Texts.f k t274 (([(⟨#[97]⟩ : ByteArray)] : List ByteArray))).bind fun t280 => (if t280 = true then ((span_Bytes.f k ([] : List (S25))).bind fun t281 => (if t281.toList = ([0] : List UInt8) then ((span_Drop.f t263 (⟨#[98]⟩ : ByteArray)).bind fun t282 => (if (t282.length : Int) = 1 then ((span_Fit.f t263).bind fun t285 => (some t285)) else (some false))) else (some false))) else (some false)))) else (some false)) = some r := H
        have A7 := Aside0.mk A70
        clear A70
        by_cases c8 : t273 = true
        · subst c8
          have H1 : ((span_Over.f t263 9 10).bind fun t274 => ((almanacref08_Texts.f k t274 (([(⟨#[97]⟩ : ByteArray)] : List ByteArray))).bind fun t280 => (if t280 = true then ((span_Bytes.f k ([] : List (S25))).bind fun t281 => (if t281.toList = ([0] : List UInt8) then ((span_Drop.f t263 (⟨#[98]⟩ : ByteArray)).bind fun t282 => (if (t282.length : Int) = 1 then ((span_Fit.f t263).bind fun t285 => (some t285)) else (some false))) else (some false))) else (some false)))) = some r := by rw [if_pos rfl] at H; exact H
          clear H
          have H := H1
          clear H1
          replace H := Option.bind_eq_some_iff.mp H
          obtain ⟨t274, A90, H⟩ := H
          replace H : ((almanacref08_Texts.f k t274 (([(⟨#[97]⟩ : ByteArray)] : List ByteArray))).bind fun t280 => (if t280 = true then ((span_Bytes.f k ([] : List (S25))).bind fun t281 => (if t281.toList = ([0] : List UInt8) then ((span_Drop.f t263 (⟨#[98]⟩ : ByteArray)).bind fun t282 => (if (t282.length : Int) = 1 then ((span_Fit.f t263).bind fun t285 => (some t285)) else (some false))) else (some false))) else (some false))) = some r := H
          have A9 := Aside0.mk A90
          clear A90
          obtain ⟨y277, hy277⟩ : ∃ y_ : List ByteArray, y_ = (([(⟨#[97]⟩ : ByteArray)] : List ByteArray)) := ⟨_, rfl⟩
          replace H : ((almanacref08_Texts.f k t274 y277).bind fun t280 => (if t280 = true then ((span_Bytes.f k ([] : List (S25))).bind fun t281 => (if t281.toList = ([0] : List UInt8) then ((span_Drop.f t263 (⟨#[98]⟩ : ByteArray)).bind fun t282 => (if (t282.length : Int) = 1 then ((span_Fit.f t263).bind fun t285 => (some t285)) else (some false))) else (some false))) else (some false))) = some r := by first | (rw [hy277]; with_reducible exact H) | (have H2_ := (Option.bind_some _ _).symm.trans H; rw [hy277]; with_reducible exact H2_) | (have H2_ := (Option.bind_some _ _).symm.trans H; with_reducible exact H2_) | with_reducible exact H | (rw [hy277]; exact H) | exact H
          have Ny277 := Aside0.mk hy277
          clear hy277
          replace H := Option.bind_eq_some_iff.mp H
          obtain ⟨t280, A100, H⟩ := H
          replace H : (if t280 = true then ((span_Bytes.f k ([] : List (S25))).bind fun t281 => (if t281.toList = ([0] : List UInt8) then ((span_Drop.f t263 (⟨#[98]⟩ : ByteArray)).bind fun t282 => (if (t282.length : Int) = 1 then ((span_Fit.f t263).bind fun t285 => (some t285)) else (some false))) else (some false))) else (some false)) = some r := H
          have A10 := Aside0.mk A100
          clear A100
          by_cases c11 : t280 = true
          · subst c11
            have H1 : ((span_Bytes.f k ([] : List (S25))).bind fun t281 => (if t281.toList = ([0] : List UInt8) then ((span_Drop.f t263 (⟨#[98]⟩ : ByteArray)).bind fun t282 => (if (t282.length : Int) = 1 then ((span_Fit.f t263).bind fun t285 => (some t285)) else (some false))) else (some false))) = some r := by rw [if_pos rfl] at H; exact H
            clear H
            have H := H1
            clear H1
            replace H := Option.bind_eq_some_iff.mp H
            obtain ⟨t281, A120, H⟩ := H
            replace H : (if t281.toList = ([0] : List UInt8) then ((span_Drop.f t263 (⟨#[98]⟩ : ByteArray)).bind fun t282 => (if (t282.length : Int) = 1 then ((span_Fit.f t263).bind fun t285 => (some t285)) else (some false))) else (some false)) = some r := H
            have A12 := Aside0.mk A120
            clear A120
            by_cases c13 : t281.toList = ([0] : List UInt8)
            · rw [if_pos c13] at H
              have c13b0 : (t281.toList == ([0] : List UInt8)) = true := beq_iff_eq.mpr c13
              have c13b1 : (t281.toList != ([0] : List UInt8)) = false := bne_eq_false_iff_eq.mpr c13
              clear c13
              replace H := Option.bind_eq_some_iff.mp H
              obtain ⟨t282, A140, H⟩ := H
              replace H : (if (t282.length : Int) = 1 then ((span_Fit.f t263).bind fun t285 => (some t285)) else (some false)) = some r := H
              have A14 := Aside0.mk A140
              clear A140
              by_cases c15 : (t282.length : Int) = 1
              · rw [if_pos c15] at H
                have c15b0 : ((t282.length : Int) == 1) = true := beq_iff_eq.mpr c15
                have c15b1 : ((t282.length : Int) != 1) = false := bne_eq_false_iff_eq.mpr c15
                clear c15
                replace H := Option.bind_eq_some_iff.mp H
                obtain ⟨t285, A160, H⟩ := H
                replace H : (some t285) = some r := H
                have A16 := Aside0.mk A160
                clear A160
                obtain rfl := Option.some.inj H
                go_enter Try.func6, Try.ntmps6
                go_wp2_with (first | ((with_reducible refine gate_callee (f := 7) rfl ?_); refine goesL_ (some 3) rfl rfl Try.func7 (by kernel_rfl) rfl #[.slice none 0 0, .agg #[.string (⟨#[97]⟩ : ByteArray), .int .i64 5, .int .i64 9]] rfl (by (try simp only [List.map_toArray, List.map_cons, List.map_nil]); first | done | rfl | (simp only [List.length_drop, List.length_take]; rfl)) ?_; (refine (span_Put.calls _ _ ([] : List (S25)) (⟨#[97]⟩ : ByteArray) 5 9 t260 _ ?side1 ?side2 A1.out).mono ?_); (case side1 => exact Kd.C_nil _ _); (case side2 => exact Nat.le_refl _); rintro e w17 ⟨v261, rfl, ho0, hb⟩; refine ⟨_, rfl, ?_⟩; have n0_ := Aside0.mk (Kd.R_lower ho0 (below_size (by repeat (first | (with_reducible first | exact HB.out | apply below_alloc | apply pw_below_drewN | apply below_drew1) | exact HB.out)))); have n1_ := Aside0.mk (below_step (by repeat (first | (with_reducible first | exact HB.out | apply below_alloc | apply pw_below_drewN | apply below_drew1) | exact HB.out)) hb); clear HB; have HO262 := n0_; have HB := n1_; clear n0_ n1_; (try clear hb); (try clear hb2); (try clear hk); (try clear hi); (try clear ho0); obtain ⟨Ao18, co18, eo18⟩ := Kd.R_slice HO262.out; subst eo18) | ((with_reducible refine gate_callee (f := 7) rfl ?_); refine goesL_ (some 5) rfl rfl Try.func7 (by kernel_rfl) rfl #[.slice Ao18 t260.length co18, .agg #[.string (⟨#[98]⟩ : ByteArray), .int .i64 1, .int .i64 2]] rfl (by (try simp only [List.map_toArray, List.map_cons, List.map_nil]); first | done | rfl | (simp only [List.length_drop, List.length_take]; rfl)) ?_; (with_reducible refine (span_Put.calls _ _ t260 (⟨#[98]⟩ : ByteArray) 1 2 t263 _ ?side1 ?side2 A2.out).mono ?_); (case side1 => repeat (first | exact (Kd.R_reads' HO262.out).2.2 | (with_reducible refine Kd.C_alloc ?_ _) | (with_reducible refine Kd.C_drewN ?_ _) | (with_reducible refine Kd.C_drew ?_))); (case side2 => exact (Kd.R_reads' HO262.out).2.1); rintro e w19 ⟨v264, rfl, ho0, hb⟩; refine ⟨_, rfl, ?_⟩; have n0_ := Aside0.mk (Kd.R_elder' (by (with_reducible repeat (first | apply Kd.R_alloc | apply Kd.R_drewN | apply Kd.R_drew)); exact HO262.out) (Kd.R_base ho0) hb); have n1_ := Aside0.mk (Kd.R_lower (Kd.R_new' ho0 (Kd.R_lt (by (with_reducible repeat (first | apply Kd.R_alloc | apply Kd.R_drewN | apply Kd.R_drew)); exact HO262.out))) (below_size (by repeat (first | (with_reducible first | exact HB.out | apply below_alloc | apply pw_below_drewN | apply below_drew1) | exact HB.out)))); have n2_ := Aside0.mk (below_step (by repeat (first | (with_reducible first | exact HB.out | apply below_alloc | apply pw_below_drewN | apply below_drew1) | exact HB.out)) hb); clear HO262; clear HB; have HO262 := n0_; have HO265 := n1_; have HB := n2_; clear n0_ n1_ n2_; (try clear hb); (try clear hb2); (try clear hk); (try clear hi); (try clear ho0); obtain ⟨Ao20, co20, eo20⟩ := Kd.R_slice HO265.out; subst eo20; have p266 : 0 ≤ (0 : Int) := (by omega); have q266 : 0 < (t263.length : Int) := of_decide_eq_true (by first | (with_reducible assumption) | assumption); obtain ⟨ad266, e266, hx266_0, hx266_1, hx266_2⟩ := at_T25 (Kd.R_reads' HO265.out).2.2 0 p266 q266; cases e266; have qi266 : (0 < t263.length) = True := eq_true (by omega); (try rw [show ((0 : Int)).toNat = 0 from rfl] at hx266_0); (try rw [show 0 * 3 = 0 from rfl] at hx266_0); (try rw [Addr.add_zero'] at hx266_0); (try rw [show ((0 : Int)).toNat = 0 from rfl] at hx266_1); (try rw [show 0 * 3 = 0 from rfl] at hx266_1); (try rw [Addr.add_zero'] at hx266_1); (try rw [show ((0 : Int)).toNat = 0 from rfl] at hx266_2); (try rw [show 0 * 3 = 0 from rfl] at hx266_2); (try rw [Addr.add_zero'] at hx266_2); replace p266 := eq_true p266; replace q266 := eq_true q266) | (go_at_call 10; (with_reducible refine (span_Over.calls _ _ t263 2 5 t267 _ ?side1 ?side2 A6.out).mono ?_); (case side1 => repeat (first | exact (Kd.R_reads' HO265.out).2.2 | (with_reducible refine Kd.C_alloc ?_ _) | (with_reducible refine Kd.C_drewN ?_ _) | (with_reducible refine Kd.C_drew ?_))); (case side2 => exact (Kd.R_reads' HO265.out).2.1); rintro e w21 ⟨v268, rfl, ho0, hb⟩; have n0_ := Aside0.mk (Kd.R_below (by (with_reducible repeat (first | apply Kd.R_alloc | apply Kd.R_drewN | apply Kd.R_drew)); exact HO262.out) hb); have n1_ := Aside0.mk (Kd.R_below (by (with_reducible repeat (first | apply Kd.R_alloc | apply Kd.R_drewN | apply Kd.R_drew)); exact HO265.out) hb); have n2_ := Aside0.mk (Kd.R_lower ho0 (below_size (by repeat (first | (with_reducible first | exact HB.out | apply below_alloc | apply pw_below_drewN | apply below_drew1) | exact HB.out)))); have n3_ := Aside0.mk (below_step (by repeat (first | (with_reducible first | exact HB.out | apply below_alloc | apply pw_below_drewN | apply below_drew1) | exact HB.out)) hb); clear HO262; clear HO265; clear HB; have HO262 := n0_; have HO265 := n1_; have HO269 := n2_; have HB := n3_; clear n0_ n1_ n2_ n3_; (try clear hb); (try clear hb2); (try clear hk); (try clear hi); (try clear ho0)) | ((with_reducible refine gate_dst (N := 19) rfl ?_); (try (refine gate_guard (by rfl) ?_; dsimp only)); refine Kd.R_lit Kd.string _ 9 ?hg (N := 19) ?hd (xs := ([(⟨#[98]⟩ : ByteArray)] : List ByteArray)) (inner := [.string (⟨#[98]⟩ : ByteArray)]) (ok := fun _ => True) (okp := fun _ => True) ?hr ?hp (fun _ hk => hk) trivial (Below.refl _ _) (Nat.le_refl _) (by simp) ?_; (case hd => rfl); (case hg => rfl); (case hr => first | (go_simp; done) | (go_simp; rfl)); (case hp => exact (Reps.one (show Kd.M Kd.string _ _ _ (⟨#[98]⟩ : ByteArray) [.string (⟨#[98]⟩ : ByteArray)] from rfl) (Reps.none _ _))); intro v271 w22 ho23 hb hg_ hnew_; clear hg_ hnew_; (first | rw [← Ny270.out] at ho23 | (simp only [Int.reduceToNat] at ho23; rw [← Ny270.out] at ho23)); have n0_ := Aside0.mk (Kd.R_below (by (with_reducible repeat (first | apply Kd.R_alloc | apply Kd.R_drewN | apply Kd.R_drew)); exact HO262.out) hb); have n1_ := Aside0.mk (Kd.R_below (by (with_reducible repeat (first | apply Kd.R_alloc | apply Kd.R_drewN | apply Kd.R_drew)); exact HO265.out) hb); have n2_ := Aside0.mk (Kd.R_elder' (by (with_reducible repeat (first | apply Kd.R_alloc | apply Kd.R_drewN | apply Kd.R_drew)); exact HO269.out) (Kd.R_base ho23) hb); have n3_ := Aside0.mk (Kd.R_lower (Kd.R_new' ho23 (Kd.R_lt (by (with_reducible repeat (first | apply Kd.R_alloc | apply Kd.R_drewN | apply Kd.R_drew)); exact HO269.out))) (below_size (by repeat (first | (with_reducible first | exact HB.out | apply below_alloc | apply pw_below_drewN | apply below_drew1) | exact HB.out)))); have n4_ := Aside0.mk (below_step (by repeat (first | (with_reducible first | exact HB.out | apply below_alloc | apply pw_below_drewN | apply below_drew1) | exact HB.out)) hb); clear HO262; clear HO265; clear HO269; clear HB; have HO262 := n0_; have HO265 := n1_; have HO269 := n2_; have HO272 := n3_; have HB := n4_; clear n0_ n1_ n2_ n3_ n4_; clear hb ho23; obtain ⟨Ao24, co24, eo24⟩ := Kd.R_slice HO269.out; subst eo24; obtain ⟨Ao25, co25, eo25⟩ := Kd.R_slice HO272.out; subst eo25) | (go_at_call 17; (with_reducible refine (almanacref08_Texts.calls k _ _ t267 _ _ y270 true _ ?side1 ?side2 ?side3 ?side4 A7.out).mono ?_); (case side1 => repeat (first | exact (Kd.R_reads' HO269.out).2.2 | (with_reducible refine Kd.C_alloc ?_ _) | (with_reducible refine Kd.C_drewN ?_ _) | (with_reducible refine Kd.C_drew ?_))); (case side2 => exact (Kd.R_reads' HO269.out).2.1); (case side3 => repeat (first | exact (Kd.R_reads' HO272.out).2.2 | (with_reducible refine Kd.C_alloc ?_ _) | (with_reducible refine Kd.C_drewN ?_ _) | (with_reducible refine Kd.C_drew ?_))); (case side4 => exact (Kd.R_reads' HO272.out).2.1); rintro e w' ⟨rfl, ⟨nd, rfl⟩⟩) | (go_at_call 10; (with_reducible refine (span_Over.calls _ _ t263 9 10 t274 _ ?side1 ?side2 A9.out).mono ?_); (case side1 => repeat (first | exact (Kd.R_reads' HO265.out).2.2 | (with_reducible refine Kd.C_alloc ?_ _) | (with_reducible refine Kd.C_drewN ?_ _) | (with_reducible refine Kd.C_drew ?_))); (case side2 => exact (Kd.R_reads' HO265.out).2.1); rintro e w26 ⟨v275, rfl, ho0, hb⟩; have n0_ := Aside0.mk (Kd.R_below (by (with_reducible repeat (first | apply Kd.R_alloc | apply Kd.R_drewN | apply Kd.R_drew)); exact HO262.out) hb); have n1_ := Aside0.mk (Kd.R_below (by (with_reducible repeat (first | apply Kd.R_alloc | apply Kd.R_drewN | apply Kd.R_drew)); exact HO265.out) hb); have n2_ := Aside0.mk (Kd.R_elder' (by (with_reducible repeat (first | apply Kd.R_alloc | apply Kd.R_drewN | apply Kd.R_drew)); exact HO269.out) (Kd.R_base ho0) hb); have n3_ := Aside0.mk (Kd.R_elder' (by (with_reducible repeat (first | apply Kd.R_alloc | apply Kd.R_drewN | apply Kd.R_drew)); exact HO272.out) (Kd.R_base ho0) hb); have n4_ := Aside0.mk (Kd.R_lower (Kd.R_new' (Kd.R_new' ho0 (Kd.R_lt (by (with_reducible repeat (first | apply Kd.R_alloc | apply Kd.R_drewN | apply Kd.R_drew)); exact HO269.out))) (Kd.R_lt (by (with_reducible repeat (first | apply Kd.R_alloc | apply Kd.R_drewN | apply Kd.R_drew)); exact HO272.out))) (below_size (by repeat (first | (with_reducible first | exact HB.out | apply below_alloc | apply pw_below_drewN | apply below_drew1) | exact HB.out)))); have n5_ := Aside0.mk (below_step (by repeat (first | (with_reducible first | exact HB.out | apply below_alloc | apply pw_below_drewN | apply below_drew1) | exact HB.out)) hb); clear HO262; clear HO265; clear HO269; clear HO272; clear HB; have HO262 := n0_; have HO265 := n1_; have HO269 := n2_; have HO272 := n3_; have HO276 := n4_; have HB := n5_; clear n0_ n1_ n2_ n3_ n4_ n5_; (try clear hb); (try clear hb2); (try clear hk); (try clear hi); (try clear ho0)) | ((with_reducible refine gate_dst (N := 25) rfl ?_); (try (refine gate_guard (by rfl) ?_; dsimp only)); refine Kd.R_lit Kd.string _ 9 ?hg (N := 25) ?hd (xs := ([(⟨#[97]⟩ : ByteArray)] : List ByteArray)) (inner := [.string (⟨#[97]⟩ : ByteArray)]) (ok := fun _ => True) (okp := fun _ => True) ?hr ?hp (fun _ hk => hk) trivial (Below.refl _ _) (Nat.le_refl _) (by simp) ?_; (case hd => rfl); (case hg => rfl); (case hr => first | (go_simp; done) | (go_simp; rfl)); (case hp => exact (Reps.one (show Kd.M Kd.string _ _ _ (⟨#[97]⟩ : ByteArray) [.string (⟨#[97]⟩ : ByteArray)] from rfl) (Reps.none _ _))); intro v278 w27 ho28 hb hg_ hnew_; clear hg_ hnew_; (first | rw [← Ny277.out] at ho28 | (simp only [Int.reduceToNat] at ho28; rw [← Ny277.out] at ho28)); have n0_ := Aside0.mk (Kd.R_below (by (with_reducible repeat (first | apply Kd.R_alloc | apply Kd.R_drewN | apply Kd.R_drew)); exact HO262.out) hb); have n1_ := Aside0.mk (Kd.R_below (by (with_reducible repeat (first | apply Kd.R_alloc | apply Kd.R_drewN | apply Kd.R_drew)); exact HO265.out) hb); have n2_ := Aside0.mk (Kd.R_elder' (by (with_reducible repeat (first | apply Kd.R_alloc | apply Kd.R_drewN | apply Kd.R_drew)); exact HO269.out) (Kd.R_base ho28) hb); have n3_ := Aside0.mk (Kd.R_elder' (by (with_reducible repeat (first | apply Kd.R_alloc | apply Kd.R_drewN | apply Kd.R_drew)); exact HO272.out) (Kd.R_base ho28) hb); have n4_ := Aside0.mk (Kd.R_elder' (by (with_reducible repeat (first | apply Kd.R_alloc | apply Kd.R_drewN | apply Kd.R_drew)); exact HO276.out) (Kd.R_base ho28) hb); have n5_ := Aside0.mk (Kd.R_lower (Kd.R_new' (Kd.R_new' (Kd.R_new' ho28 (Kd.R_lt (by (with_reducible repeat (first | apply Kd.R_alloc | apply Kd.R_drewN | apply Kd.R_drew)); exact HO269.out))) (Kd.R_lt (by (with_reducible repeat (first | apply Kd.R_alloc | apply Kd.R_drewN | apply Kd.R_drew)); exact HO272.out))) (Kd.R_lt (by (with_reducible repeat (first | apply Kd.R_alloc | apply Kd.R_drewN | apply Kd.R_drew)); exact HO276.out))) (below_size (by repeat (first | (with_reducible first | exact HB.out | apply below_alloc | apply pw_below_drewN | apply below_drew1) | exact HB.out)))); have n6_ := Aside0.mk (below_step (by repeat (first | (with_reducible first | exact HB.out | apply below_alloc | apply pw_below_drewN | apply below_drew1) | exact HB.out)) hb); clear HO262; clear HO265; clear HO269; clear HO272; clear HO276; clear HB; have HO262 := n0_; have HO265 := n1_; have HO269 := n2_; have HO272 := n3_; have HO276 := n4_; have HO279 := n5_; have HB := n6_; clear n0_ n1_ n2_ n3_ n4_ n5_ n6_; clear hb ho28; obtain ⟨Ao29, co29, eo29⟩ := Kd.R_slice HO276.out; subst eo29; obtain ⟨Ao30, co30, eo30⟩ := Kd.R_slice HO279.out; subst eo30) | (go_at_call 17; (with_reducible refine (almanacref08_Texts.calls k _ _ t274 _ _ y277 true _ ?side1 ?side2 ?side3 ?side4 A10.out).mono ?_); (case side1 => repeat (first | exact (Kd.R_reads' HO276.out).2.2 | (with_reducible refine Kd.C_alloc ?_ _) | (with_reducible refine Kd.C_drewN ?_ _) | (with_reducible refine Kd.C_drew ?_))); (case side2 => exact (Kd.R_reads' HO276.out).2.1); (case side3 => repeat (first | exact (Kd.R_reads' HO279.out).2.2 | (with_reducible refine Kd.C_alloc ?_ _) | (with_reducible refine Kd.C_drewN ?_ _) | (with_reducible refine Kd.C_drew ?_))); (case side4 => exact (Kd.R_reads' HO279.out).2.1); rintro e w' ⟨rfl, ⟨nd, rfl⟩⟩) | (go_at_call 21; (refine (span_Bytes.calls k _ _ ([] : List (S25)) t281 _ ?side1 ?side2 A12.out).mono ?_); (case side1 => exact Kd.C_nil _ _); (case side2 => exact Nat.le_refl _); rintro e w31 ⟨rfl, hb⟩; have n0_ := Aside0.mk (Kd.R_below (by (with_reducible repeat (first | apply Kd.R_alloc | apply Kd.R_drewN | apply Kd.R_drew)); exact HO262.out) hb); have n1_ := Aside0.mk (Kd.R_below (by (with_reducible repeat (first | apply Kd.R_alloc | apply Kd.R_drewN | apply Kd.R_drew)); exact HO265.out) hb); have n2_ := Aside0.mk (Kd.R_below (by (with_reducible repeat (first | apply Kd.R_alloc | apply Kd.R_drewN | apply Kd.R_drew)); exact HO269.out) hb); have n3_ := Aside0.mk (Kd.R_below (by (with_reducible repeat (first | apply Kd.R_alloc | apply Kd.R_drewN | apply Kd.R_drew)); exact HO272.out) hb); have n4_ := Aside0.mk (Kd.R_below (by (with_reducible repeat (first | apply Kd.R_alloc | apply Kd.R_drewN | apply Kd.R_drew)); exact HO276.out) hb); have n5_ := Aside0.mk (Kd.R_below (by (with_reducible repeat (first | apply Kd.R_alloc | apply Kd.R_drewN | apply Kd.R_drew)); exact HO279.out) hb); have n6_ := Aside0.mk (below_step (by repeat (first | (with_reducible first | exact HB.out | apply below_alloc | apply pw_below_drewN | apply below_drew1) | exact HB.out)) hb); clear HO262; clear HO265; clear HO269; clear HO272; clear HO276; clear HO279; clear HB; have HO262 := n0_; have HO265 := n1_; have HO269 := n2_; have HO272 := n3_; have HO276 := n4_; have HO279 := n5_; have HB := n6_; clear n0_ n1_ n2_ n3_ n4_ n5_ n6_; (try clear hb); (try clear hb2); (try clear hk); (try clear hi)) | (go_at_call 15; (with_reducible refine (span_Drop.calls _ _ t263 (⟨#[98]⟩ : ByteArray) t282 _ ?side1 ?side2 A14.out).mono ?_); (case side1 => repeat (first | exact (Kd.R_reads' HO265.out).2.2 | (with_reducible refine Kd.C_alloc ?_ _) | (with_reducible refine Kd.C_drewN ?_ _) | (with_reducible refine Kd.C_drew ?_))); (case side2 => exact (Kd.R_reads' HO265.out).2.1); rintro e w32 ⟨v283, rfl, ho0, hb⟩; have n0_ := Aside0.mk (Kd.R_elder' (by (with_reducible repeat (first | apply Kd.R_alloc | apply Kd.R_drewN | apply Kd.R_drew)); exact HO262.out) (Kd.R_base ho0) hb); have n1_ := Aside0.mk (Kd.R_elder' (by (with_reducible repeat (first | apply Kd.R_alloc | apply Kd.R_drewN | apply Kd.R_drew)); exact HO265.out) (Kd.R_base ho0) hb); have n2_ := Aside0.mk (Kd.R_below (by (with_reducible repeat (first | apply Kd.R_alloc | apply Kd.R_drewN | apply Kd.R_drew)); exact HO269.out) hb); have n3_ := Aside0.mk (Kd.R_below (by (with_reducible repeat (first | apply Kd.R_alloc | apply Kd.R_drewN | apply Kd.R_drew)); exact HO272.out) hb); have n4_ := Aside0.mk (Kd.R_below (by (with_reducible repeat (first | apply Kd.R_alloc | apply Kd.R_drewN | apply Kd.R_drew)); exact HO276.out) hb); have n5_ := Aside0.mk (Kd.R_below (by (with_reducible repeat (first | apply Kd.R_alloc | apply Kd.R_drewN | apply Kd.R_drew)); exact HO279.out) hb); have n6_ := Aside0.mk (Kd.R_lower (Kd.R_new' (Kd.R_new' ho0 (Kd.R_lt (by (with_reducible repeat (first | apply Kd.R_alloc | apply Kd.R_drewN | apply Kd.R_drew)); exact HO262.out))) (Kd.R_lt (by (with_reducible repeat (first | apply Kd.R_alloc | apply Kd.R_drewN | apply Kd.R_drew)); exact HO265.out))) (below_size (by repeat (first | (with_reducible first | exact HB.out | apply below_alloc | apply pw_below_drewN | apply below_drew1) | exact HB.out)))); have n7_ := Aside0.mk (below_step (by repeat (first | (with_reducible first | exact HB.out | apply below_alloc | apply pw_below_drewN | apply below_drew1) | exact HB.out)) hb); clear HO262; clear HO265; clear HO269; clear HO272; clear HO276; clear HO279; clear HB; have HO262 := n0_; have HO265 := n1_; have HO269 := n2_; have HO272 := n3_; have HO276 := n4_; have HO279 := n5_; have HO284 := n6_; have HB := n7_; clear n0_ n1_ n2_ n3_ n4_ n5_ n6_ n7_; (try clear hb); (try clear hb2); (try clear hk); (try clear hi); (try clear ho0); obtain ⟨Ao33, co33, eo33⟩ := Kd.R_slice HO284.out; subst eo33) | (go_at_call 8; (with_reducible refine (span_Fit.calls _ _ t263 t285 _ ?side1 ?side2 A16.out).mono ?_); (case side1 => repeat (first | exact (Kd.R_reads' HO265.out).2.2 | (with_reducible refine Kd.C_alloc ?_ _) | (with_reducible refine Kd.C_drewN ?_ _) | (with_reducible refine Kd.C_drew ?_))); (case side2 => exact (Kd.R_reads' HO265.out).2.1); rintro e w34 ⟨rfl, hb⟩; have n0_ := Aside0.mk (Kd.R_below (by (with_reducible repeat (first | apply Kd.R_alloc | apply Kd.R_drewN | apply Kd.R_drew)); exact HO262.out) hb); have n1_ := Aside0.mk (Kd.R_below (by (with_reducible repeat (first | apply Kd.R_alloc | apply Kd.R_drewN | apply Kd.R_drew)); exact HO265.out) hb); have n2_ := Aside0.mk (Kd.R_below (by (with_reducible repeat (first | apply Kd.R_alloc | apply Kd.R_drewN | apply Kd.R_drew)); exact HO269.out) hb); have n3_ := Aside0.mk (Kd.R_below (by (with_reducible repeat (first | apply Kd.R_alloc | apply Kd.R_drewN | apply Kd.R_drew)); exact HO272.out) hb); have n4_ := Aside0.mk (Kd.R_below (by (with_reducible repeat (first | apply Kd.R_alloc | apply Kd.R_drewN | apply Kd.R_drew)); exact HO276.out) hb); have n5_ := Aside0.mk (Kd.R_below (by (with_reducible repeat (first | apply Kd.R_alloc | apply Kd.R_drewN | apply Kd.R_drew)); exact HO279.out) hb); have n6_ := Aside0.mk (Kd.R_below (by (with_reducible repeat (first | apply Kd.R_alloc | apply Kd.R_drewN | apply Kd.R_drew)); exact HO284.out) hb); have n7_ := Aside0.mk (below_step (by repeat (first | (with_reducible first | exact HB.out | apply below_alloc | apply pw_below_drewN | apply below_drew1) | exact HB.out)) hb); clear HO262; clear HO265; clear HO269; clear HO272; clear HO276; clear HO279; clear HO284; clear HB; have HO262 := n0_; have HO265 := n1_; have HO269 := n2_; have HO272 := n3_; have HO276 := n4_; have HO279 := n5_; have HO284 := n6_; have HB := n7_; clear n0_ n1_ n2_ n3_ n4_ n5_ n6_ n7_; (try clear hb); (try clear hb2); (try clear hk); (try clear hi)))
                go_ret
                exact ⟨by first | rfl | (simp [errW_none, errW_some] <;> rfl) | (simp [*, errW_none, errW_some] <;> rfl), by repeat (first | (with_reducible first | exact HB.out | apply below_alloc | apply pw_below_drewN | apply below_drew1) | exact HB.out)⟩
              · rw [if_neg c15] at H
                have c15b0 : ((t282.length : Int) == 1) = false := beq_eq_false_iff_ne.mpr c15
                have c15b1 : ((t282.length : Int) != 1) = true := bne_iff_ne.mpr c15
                exact absurd ((Option.some.inj H).trans HRT.out) (by decide)
            · rw [if_neg c13] at H
              have c13b0 : (t281.toList == ([0] : List UInt8)) = false := beq_eq_false_iff_ne.mpr c13
              have c13b1 : (t281.toList != ([0] : List UInt8)) = true := bne_iff_ne.mpr c13
              exact absurd ((Option.some.inj H).trans HRT.out) (by decide)
          · replace c11 := Bool.eq_false_iff.mpr c11
            subst c11
            have H1 : (some false) = some r := by rw [if_neg (show ¬ (false = true) by decide)] at H; exact H
            clear H
            have H := H1
            clear H1
            exact absurd ((Option.some.inj H).trans HRT.out) (by decide)
        · replace c8 := Bool.eq_false_iff.mpr c8
          subst c8
          have H1 : (some false) = some r := by rw [if_neg (show ¬ (false = true) by decide)] at H; exact H
          clear H
          have H := H1
          clear H1
          exact absurd ((Option.some.inj H).trans HRT.out) (by decide)
      · rw [if_neg c5] at H
        have c5b0 : (((rd_T25 t263 0).f0).toList == ([98] : List UInt8)) = false := beq_eq_false_iff_ne.mpr c5
        have c5b1 : (((rd_T25 t263 0).f0).toList != ([98] : List UInt8)) = true := bne_iff_ne.mpr c5
        exact absurd ((Option.some.inj H).trans HRT.out) (by decide)
    · rw [if_neg c4] at H
      exact absurd H (by simp)
  · rw [if_neg c3] at H
    have c3b0 : ((t263.length : Int) == 2) = false := beq_eq_false_iff_ne.mpr c3
    have c3b1 : ((t263.length : Int) != 2) = true := bne_iff_ne.mpr c3
    exact absurd ((Option.some.inj H).trans HRT.out) (by decide)

end Go.Proofs.Ythcoiabgemclbaa.PD
/- The example of chapter 19 comes to true. -/
namespace Go.Proofs.Ythcoiabgemclbaa.PD
open Go.RowKit Go.Proofs.YthcoiabgemclbaaW.PrintWords Go.Proofs.YthcoiabgemclbaaW.PrintLast Go.Proofs.YthcoiabgemclbaaW.PrintMore
set_option maxRecDepth 100000 in
theorem awake_val : almanaclaw19_awake.f 8 = some true := by kernel_rfl
theorem almanaclaw19_awake.calls (k : Nat) (r : Bool) (w : World) (h : almanaclaw19_awake.f k = some r) :
    Calls Try.prog 6 #[] w fun e w' => e = .returned (.bool r) ∧ Below w.heap.size w w' := by
  refine almanaclaw19_awake.callsT k r w h ?_
  have h1 := at_rounds (fun k => almanaclaw19_awake.mono k) (Nat.le_max_left k 8) h
  have h2 := at_rounds (fun k => almanaclaw19_awake.mono k) (Nat.le_max_right k 8) awake_val
  rw [h1] at h2
  exact Option.some.inj h2
end Go.Proofs.Ythcoiabgemclbaa.PD
/- What the law SpanBytes leans on: the document's Same and Fit come to what the plain ones come to; which rows of spans are fit. -/
namespace Go.Proofs.Ythcoiabgemclbaa.PD
open Go.RowKit Go.Proofs.YthcoiabgemclbaaW.PrintWords Go.Proofs.YthcoiabgemclbaaW.PrintLast Go.Proofs.YthcoiabgemclbaaW.PrintMore
set_option linter.unusedVariables false
set_option linter.unusedSimpArgs false
theorem w64 {a : Int} (h0 : -9223372036854775808 ≤ a) (h1 : a ≤ 9223372036854775807) : wrap64 a = a := by unfold wrap64; omega
theorem w64n {i : Nat} (h : i < 9223372036854775807) : wrap64 ((i : Int) + 1) = ((i + 1 : Nat) : Int) := by unfold wrap64; omega
theorem rd_at {l : List S25} {i : Nat} (h : i < l.length) : rd_T25 l (i : Int) = l[i] := by simp only [rd_T25, Int.toNat_natCast]; simp [h]
theorem rdb_at {l : List ByteArray} {i : Nat} (h : i < l.length) : rdOf ByteArray.empty l (i : Int) = l[i] := by simp only [rdOf, Int.toNat_natCast]; simp [h]
theorem same_toList {a b : ByteArray} : (a.toList == b.toList) = decide (a = b) := by
  by_cases h : a = b
  · subst h; simp
  · rw [decide_eq_false h]
    exact beq_eq_false_iff_ne.2 (fun e => h (toList_inj e))
theorem sameN_eq {a b : ByteArray} : sameN a b = decide (a = b) := same_toList
theorem ne_S (a b : S25) : (!(a.f0.toList == b.f0.toList) || (!(a.f1 == b.f1) || (!(a.f2 == b.f2)))) = !decide (a = b) := by
  rw [same_toList]
  cases a with | mk a0 a1 a2 => cases b with | mk b0 b1 b2 =>
  by_cases h0 : a0 = b0 <;> by_cases h1 : a1 = b1 <;> by_cases h2 : a2 = b2 <;> simp [h0, h1, h2, S25.mk.injEq]
theorem drop_step {α : Type} {l : List α} {i : Nat} (h : i < l.length) : l.drop i = l[i] :: l.drop (i + 1) := List.drop_eq_getElem_cons h
theorem dec_cons {α : Type} [DecidableEq α] {a b : α} {l m : List α} (h : a = b) : decide (a :: l = b :: m) = decide (l = m) := by subst h; simp
theorem same_loop (l m : List S25) (hl : l.length = m.length) (hb : l.length < 4398046511104) : ∀ d i : Nat, l.length - i = d → i ≤ l.length → Ev (fun k => almanacref19_Same.l0 k l m (i : Int)) (decide (l.drop i = m.drop i)) := by
  intro d
  induction d with
  | zero =>
    intro i hd hi
    refine Ev.step (f := fun _ => some true) (fun k => by simp only [almanacref19_Same.l0]; rw [if_neg (by omega)]) ?_
    rw [List.drop_eq_nil_of_le (by omega), List.drop_eq_nil_of_le (by omega)]
    exact Ev.now _
  | succ d ih =>
    intro i hd hi
    have h1 : i < l.length := by omega
    have h2 : i < m.length := by omega
    rw [drop_step h1, drop_step h2]
    by_cases h : l[i] = m[i]
    · have := ih (i + 1) (by omega) (by omega)
      refine Ev.step (f := fun k => almanacref19_Same.l0 k l m ((i + 1 : Nat) : Int)) (fun k => by
        simp only [almanacref19_Same.l0]
        rw [if_pos (by omega), if_pos (by omega), if_pos (by omega), rd_at h1, rd_at h2, ne_S, w64n (by omega)]
        simp [h]) ?_
      rw [dec_cons h]
      exact this
    · refine Ev.step (f := fun _ => some false) (fun k => by
        simp only [almanacref19_Same.l0]
        rw [if_pos (by omega), if_pos (by omega), if_pos (by omega), rd_at h1, rd_at h2, ne_S]
        simp [h]) ?_
      have e : decide (l[i] :: l.drop (i + 1) = m[i] :: m.drop (i + 1)) = false := decide_eq_false (fun e => h (List.cons.inj e).1)
      rw [e]
      exact Ev.now _
theorem rsame_val (l m : List S25) (hb : l.length < 4398046511104) : Ev (fun k => almanacref19_Same.f k l m) (decide (l = m)) := by
  by_cases h : l.length = m.length
  · refine Ev.congr (f := fun k => almanacref19_Same.l0 k l m ((0 : Nat) : Int)) (fun k => by unfold almanacref19_Same.f; rw [if_pos (by omega)]; rfl) ?_
    simpa using same_loop l m h hb _ 0 rfl (Nat.zero_le _)
  · refine Ev.congr (f := fun k => some false) (fun k => by unfold almanacref19_Same.f; rw [if_neg (by omega)]) ?_
    rw [decide_eq_false (fun e => h (by rw [e]))]
    exact Ev.now _
theorem before_val (a b : S25) : almanacref19_before.f a.f0 a.f1 a.f2 b.f0 b.f1 b.f2 = some (ltS a b) := by
  unfold almanacref19_before.f ltS
  by_cases h1 : a.f1 < b.f1
  · simp [h1]
  · by_cases h2 : a.f1 = b.f1
    · simp [h1, h2]
    · simp [h1, h2]
theorem before_val' (a0 : ByteArray) (a1 a2 : Int) (b : S25) : almanacref19_before.f a0 a1 a2 b.f0 b.f1 b.f2 = some (ltS ⟨a0, a1, a2⟩ b) := before_val ⟨a0, a1, a2⟩ b
/-! #### Fit -/
def allFrom (l : List S25) (i : Nat) : Bool := (List.range' i (l.length - i)).all (okAt l)
theorem allFrom_end {l : List S25} {i : Nat} (h : l.length ≤ i) : allFrom l i = true := by unfold allFrom; rw [Nat.sub_eq_zero_of_le h]; rfl
theorem allFrom_step {l : List S25} {i : Nat} (h : i < l.length) : allFrom l i = (okAt l i && allFrom l (i + 1)) := by
  unfold allFrom
  rw [show l.length - i = (l.length - (i + 1)) + 1 by omega, List.range'_succ, List.all_cons]
theorem fitB_all (l : List S25) : fitB l = (allFrom l 0 && decide (l.length ≤ 32)) := by
  unfold fitB allFrom
  rw [Nat.sub_zero, List.range_eq_range']
theorem okAt_eq {l : List S25} {i : Nat} (h : i < l.length) : okAt l i =
    (!((l.take i).any (fun y => sameN y.f0 l[i].f0)) && (!(l[i].f0.toList == [])) && decide (l[i].f0.size ≤ 24) && decide (l[i].f1 ≤ l[i].f2) && (decide (i = 0) || ltS (rd_T25 l ((i : Int) - 1)) l[i])) := by
  unfold okAt
  rw [rd_at h]
theorem fit_l1 (l : List S25) (hb : l.length < 4398046511104) (i : Nat) (hi : i < l.length) (r : Bool) (H : Ev (fun k => almanacref19_Fit.l0 k l ((i + 1 : Nat) : Int)) r) : ∀ d j : Nat, i - j = d → j ≤ i →
    Ev (fun k => almanacref19_Fit.l1 k l (i : Int) (j : Int)) (if ((l.take i).drop j).any (fun y => sameN y.f0 l[i].f0) then false else r) := by
  intro d
  induction d with
  | zero =>
    intro j hd hj
    rw [List.drop_eq_nil_of_le (by simp; omega), List.any_nil]
    refine Ev.step (f := fun k => almanacref19_Fit.l0 k l ((i + 1 : Nat) : Int)) (fun k => by
      simp only [almanacref19_Fit.l1]
      rw [if_neg (by omega), w64n (by omega)]) ?_
    exact H
  | succ d ih =>
    intro j hd hj
    have hjl : j < (l.take i).length := by simp; omega
    have hjn : j < l.length := by omega
    rw [drop_step hjl, List.any_cons, List.getElem_take]
    by_cases h : l[j].f0.toList = l[i].f0.toList
    · have e : sameN l[j].f0 l[i].f0 = true := beq_iff_eq.2 h
      rw [e, Bool.true_or, if_pos rfl]
      refine Ev.step (f := fun _ => some false) (fun k => by
        simp only [almanacref19_Fit.l1]
        rw [if_pos (by omega), if_pos (by omega), if_pos (by omega), if_pos (by omega), if_pos (by omega), rd_at hjn, rd_at hi, if_pos h]) ?_
      exact Ev.now _
    · have e : sameN l[j].f0 l[i].f0 = false := beq_eq_false_iff_ne.2 h
      rw [e, Bool.false_or]
      refine Ev.step (f := fun k => almanacref19_Fit.l1 k l (i : Int) ((j + 1 : Nat) : Int)) (fun k => by
        simp only [almanacref19_Fit.l1]
        rw [if_pos (by omega), if_pos (by omega), if_pos (by omega), if_pos (by omega), if_pos (by omega), rd_at hjn, rd_at hi, if_neg h, w64n (by omega)]) ?_
      exact ih (j + 1) (by omega) (by omega)
theorem fit_j2 (l : List S25) (hb : l.length < 4398046511104) (i : Nat) (hi : i < l.length) (r b : Bool) (H : Ev (fun k => almanacref19_Fit.l0 k l ((i + 1 : Nat) : Int)) r) :
    Ev (fun k => almanacref19_Fit.j2 k l (i : Int) b) (if b then false else if (l.take i).any (fun y => sameN y.f0 l[i].f0) then false else r) := by
  cases b with
  | true =>
    refine Ev.step (f := fun _ => some false) (fun k => by simp only [almanacref19_Fit.j2]; rfl) ?_
    exact Ev.now _
  | false =>
    refine Ev.step (f := fun k => almanacref19_Fit.l1 k l (i : Int) ((0 : Nat) : Int)) (fun k => by simp only [almanacref19_Fit.j2]; rfl) ?_
    exact fit_l1 l hb i hi r H _ 0 rfl (Nat.zero_le _)
theorem fit_j1 (l : List S25) (hb : l.length < 4398046511104) (i : Nat) (hi : i < l.length) (r b : Bool) (H : Ev (fun k => almanacref19_Fit.l0 k l ((i + 1 : Nat) : Int)) r) :
    Ev (fun k => almanacref19_Fit.j1 k l (i : Int) b) (if b then false else if (decide (i = 0) || ltS (rd_T25 l ((i : Int) - 1)) l[i]) = false then false else if (l.take i).any (fun y => sameN y.f0 l[i].f0) then false else r) := by
  cases b with
  | true =>
    refine Ev.step (f := fun _ => some false) (fun k => by simp only [almanacref19_Fit.j1]; rfl) ?_
    exact Ev.now _
  | false =>
    by_cases h0 : i = 0
    · refine Ev.step (f := fun k => almanacref19_Fit.j2 k l (i : Int) false) (fun k => by simp only [almanacref19_Fit.j1]; rw [if_neg (by decide), if_neg (by omega)]) ?_
      have := fit_j2 l hb i hi r false H
      simpa [h0] using this
    · have := fit_j2 l hb i hi r (!ltS (rd_T25 l ((i : Int) - 1)) l[i]) H
      refine Ev.step (f := fun k => almanacref19_Fit.j2 k l (i : Int) (!ltS (rd_T25 l ((i : Int) - 1)) l[i])) (fun k => by
        simp only [almanacref19_Fit.j1]
        rw [if_neg (by decide), if_pos (by omega), w64 (by omega) (by omega), if_pos (by omega), if_pos (by omega), if_pos (by omega), if_pos (by omega), before_val, Option.bind_some, rd_at hi]) ?_
      simpa [h0] using this
theorem fit_l0 (l : List S25) (hb : l.length < 4398046511104) : ∀ d i : Nat, l.length - i = d → i ≤ l.length → Ev (fun k => almanacref19_Fit.l0 k l (i : Int)) (allFrom l i && decide (l.length ≤ 32)) := by
  intro d
  induction d with
  | zero =>
    intro i hd hi
    rw [allFrom_end (by omega), Bool.true_and]
    refine Ev.step (f := fun _ => some (decide (l.length ≤ 32))) (fun k => by
      simp only [almanacref19_Fit.l0]
      rw [if_neg (by omega)]
      by_cases h : l.length ≤ 32
      · rw [decide_eq_true h, decide_eq_true (by omega)]
      · rw [decide_eq_false h, decide_eq_false (by omega)]) ?_
    exact Ev.now _
  | succ d ih =>
    intro i hd hi
    have h1 : i < l.length := by omega
    have H := ih (i + 1) (by omega) (by omega)
    rw [allFrom_step h1, okAt_eq h1]
    by_cases c1 : l[i].f0.toList = []
    · have := fit_j1 l hb i h1 _ true H
      refine Ev.step (f := fun k => almanacref19_Fit.j1 k l (i : Int) true) (fun k => by
        simp only [almanacref19_Fit.l0]
        rw [if_pos (by omega), if_pos (by omega), rd_at h1, if_pos c1]) ?_
      simpa [c1] using this
    · by_cases c2 : l[i].f0.size ≤ 24
      · have := fit_j1 l hb i h1 _ (decide (l[i].f2 < l[i].f1)) H
        refine Ev.step (f := fun k => almanacref19_Fit.j1 k l (i : Int) (decide (l[i].f2 < l[i].f1))) (fun k => by
          simp only [almanacref19_Fit.l0]
          rw [if_pos (by omega), if_pos (by omega), rd_at h1, if_neg c1, if_neg (by omega)]) ?_
        have e1 : (l[i].f0.toList == []) = false := beq_eq_false_iff_ne.2 c1
        rw [e1, decide_eq_true c2]
        by_cases c3 : l[i].f2 < l[i].f1
        · have c4 : ¬ l[i].f1 ≤ l[i].f2 := by omega
          simpa [c3, c4] using this
        · have c4 : l[i].f1 ≤ l[i].f2 := by omega
          have c5 : decide (l[i].f2 < l[i].f1) = false := decide_eq_false c3
          rw [c5] at this ⊢
          rw [decide_eq_true c4]
          cases e2 : (l.take i).any (fun y => sameN y.f0 l[i].f0) <;> cases e3 : (decide (i = 0) || ltS (rd_T25 l ((i : Int) - 1)) l[i]) <;> rw [e2, e3] at this <;> simpa using this
      · have := fit_j1 l hb i h1 _ true H
        refine Ev.step (f := fun k => almanacref19_Fit.j1 k l (i : Int) true) (fun k => by
          simp only [almanacref19_Fit.l0]
          rw [if_pos (by omega), if_pos (by omega), rd_at h1, if_neg c1, if_pos (by omega)]) ?_
        simpa [c2] using this
theorem rfit_val (l : List S25) (hb : l.length < 4398046511104) : Ev (fun k => almanacref19_Fit.f k l) (fitB l) := by
  rw [fitB_all]
  exact fit_l0 l hb _ 0 rfl (Nat.zero_le _)
theorem awake_ev' : Ev (fun k => almanaclaw19_awake.f k) true := Ev.of (fun k => almanaclaw19_awake.mono k) awake_val
theorem awake_end' : Ev (fun k => (almanaclaw19_awake.f k).bind fun t => some t) true := Ev.bind awake_ev' (Ev.now _)
/-- A span that can be in an index. -/
def goodS (x : S25) : Prop := x.f0.toList ≠ [] ∧ x.f0.size ≤ 24 ∧ x.f1 ≤ x.f2
theorem fit_iff (l : List S25) : fitB l = true ↔ (l.Pairwise (fun a b => ltS a b = true) ∧ l.Pairwise (fun a b => a.f0 ≠ b.f0) ∧ (∀ x ∈ l, goodS x) ∧ l.length ≤ 32) := by
  constructor
  · intro h
    refine ⟨fit_sorted h, ?_, ?_, fit_len h⟩
    · rw [List.pairwise_iff_getElem]
      intro i j hi hj hij e
      have h1 := fit_at h j hj
      rw [okAt_eq hj] at h1
      simp only [Bool.and_eq_true] at h1
      have h2 : (l.take j).any (fun y => sameN y.f0 l[j].f0) = false := by simpa using h1.1.1.1.1
      have h3 : l[i] ∈ l.take j := by
        rw [List.mem_take_iff_getElem]
        exact ⟨i, by omega, rfl⟩
      have h4 := List.any_eq_false.1 h2 _ h3
      rw [sameN_eq] at h4
      simp [e] at h4
    · intro x hx
      obtain ⟨i, hi, rfl⟩ := List.getElem_of_mem hx
      have h1 := fit_at h i hi
      rw [okAt_eq hi] at h1
      simp only [Bool.and_eq_true, decide_eq_true_eq] at h1
      exact ⟨by have := h1.1.1.1.2; simpa using this, h1.1.1.2, h1.1.2⟩
  · rintro ⟨h1, h2, h3, h4⟩
    rw [fit_of_all (fun i hi => ?_)]
    · simpa using h4
    rw [okAt_eq hi]
    obtain ⟨g1, g2, g3⟩ := h3 l[i] (List.getElem_mem hi)
    have e1 : (l.take i).any (fun y => sameN y.f0 l[i].f0) = false := by
      rw [List.any_eq_false]
      intro y hy
      rw [List.mem_take_iff_getElem] at hy
      obtain ⟨j, hj, rfl⟩ := hy
      rw [List.pairwise_iff_getElem] at h2
      have := h2 j i (by omega) hi (by omega)
      rw [sameN_eq]
      simpa using this
    have e2 : (l[i].f0.toList == []) = false := beq_eq_false_iff_ne.2 g1
    rw [e1, e2, decide_eq_true g2, decide_eq_true g3]
    by_cases h0 : i = 0
    · rw [decide_eq_true h0]; rfl
    · rw [List.pairwise_iff_getElem] at h1
      have := h1 (i - 1) i (by omega) hi (by omega)
      rw [show ((i : Int) - 1) = ((i - 1 : Nat) : Int) by omega, rd_at (by omega), this]
      simp
end Go.Proofs.Ythcoiabgemclbaa.PD
/- Numbers as bytes, seven bits each: what is written is read, and only that is read as a number. -/
namespace Go.Proofs.Ythcoiabgemclbaa.PD
open Go.RowKit Go.Proofs.YthcoiabgemclbaaW.PrintWords
set_option linter.unusedVariables false
set_option linter.unusedSimpArgs false
/-- A number read: the number, how many bytes it takes, the error. -/
def numGo : List UInt8 → Nat → Nat → Nat × Nat × Int
  | [], _, _ => (0, 0, 11)
  | c :: r, k, n => if k = 9 ∧ 1 < c.toNat then (0, 0, 10) else if 128 ≤ c.toNat then numGo r (k + 1) (n + c.toNat % 128 * 128 ^ k) else if c.toNat = 0 ∧ 0 < k then (0, 0, 10) else (n + c.toNat % 128 * 128 ^ k, k + 1, 0)
theorem pow128 (k : Nat) : 128 ^ (k + 1) = 128 * 128 ^ k := by rw [Nat.pow_succ, Nat.mul_comm]
theorem top_small {n k : Nat} (h : n * 128 ^ k < 18446744073709551616) (hk : 9 ≤ k) : n ≤ 1 := by
  have h1 : 128 ^ 9 ≤ 128 ^ k := Nat.pow_le_pow_right (by decide) hk
  have h2 : n * 128 ^ 9 ≤ n * 128 ^ k := Nat.mul_le_mul_left _ h1
  have h3 : (128 : Nat) ^ 9 = 9223372036854775808 := by decide
  rw [h3] at h2
  omega
theorem ofNat_small {n : Nat} (h : n < 256) : (UInt8.ofNat n).toNat = n := by simp [Nat.mod_eq_of_lt h]
theorem numGo_enc : ∀ (f k n acc : Nat) (rest : List UInt8), k + f = 10 → n * 128 ^ k < 18446744073709551616 → (k = 0 ∨ 0 < n) → numGo (numL f n ++ rest) k acc = (acc + n * 128 ^ k, k + (numL f n).length, 0)
  | 0, k, n, acc, rest, hf, hn, h0 => by
    exfalso
    obtain rfl : k = 10 := by omega
    have h3 : (128 : Nat) ^ 10 = 1180591620717411303424 := by decide
    rw [h3] at hn
    omega
  | f + 1, k, n, acc, rest, hf, hn, h0 => by
    by_cases h : n < 128
    · have e : numL (f + 1) n = [UInt8.ofNat n] := by unfold numL; rw [if_pos h]
      rw [e, List.singleton_append]
      unfold numGo
      rw [ofNat_small (by omega), if_neg (by rintro ⟨rfl, h2⟩; have := top_small hn (Nat.le_refl _); omega), if_neg (by omega), if_neg (by omega), Nat.mod_eq_of_lt h]
      rfl
    · have e : numL (f + 1) n = UInt8.ofNat (n % 128 + 128) :: numL f (n / 128) := by rw [numL, if_neg h]
      rw [e, List.cons_append]
      have hk : k ≠ 9 := by rintro rfl; have := top_small hn (Nat.le_refl _); omega
      unfold numGo
      rw [ofNat_small (by omega), if_neg (by omega), if_pos (by omega)]
      have hle : n / 128 * 128 ^ (k + 1) ≤ n * 128 ^ k := by
        rw [pow128, ← Nat.mul_assoc]
        exact Nat.mul_le_mul_right _ (by omega)
      rw [numGo_enc f (k + 1) (n / 128) _ rest (by omega) (by omega) (.inr (by omega))]
      have e2 : acc + (n % 128 + 128) % 128 * 128 ^ k + n / 128 * 128 ^ (k + 1) = acc + n * 128 ^ k := by
        rw [show (n % 128 + 128) % 128 = n % 128 by omega, pow128, ← Nat.mul_assoc, Nat.add_assoc, ← Nat.add_mul]
        congr 2
        omega
      rw [e2, List.length_cons]
      congr 2
      omega
theorem small_k {k : Nat} (h : k ≤ 8) : k = 0 ∨ k = 1 ∨ k = 2 ∨ k = 3 ∨ k = 4 ∨ k = 5 ∨ k = 6 ∨ k = 7 ∨ k = 8 := by omega
theorem sum_small {n k r : Nat} (hk : k ≤ 8) (h : n * 128 ^ (k + 1) < 18446744073709551616) (hr : r < 128) : (r + n * 128) * 128 ^ k < 18446744073709551616 := by
  have e : 2 * 128 ^ (8 - k) * 128 ^ (k + 1) = 18446744073709551616 := by
    rw [Nat.mul_assoc, ← Nat.pow_add, show 8 - k + (k + 1) = 9 by omega]
  have h1 : n < 2 * 128 ^ (8 - k) := Nat.lt_of_mul_lt_mul_right (a := 128 ^ (k + 1)) (by rw [e]; exact h)
  have h2 : (n + 1) * 128 ^ (k + 1) ≤ 18446744073709551616 := by rw [← e]; exact Nat.mul_le_mul_right _ h1
  have h3 : (r + n * 128) * 128 ^ k < (n + 1) * 128 ^ (k + 1) := by
    rw [pow128, ← Nat.mul_assoc]
    exact Nat.mul_lt_mul_of_pos_right (by omega) (Nat.pow_pos (by decide))
  omega
theorem one_small {x k : Nat} (hk : k ≤ 8) (hx : x < 128) : x * 128 ^ k < 18446744073709551616 := by
  have := sum_small (n := 0) hk (by omega) hx
  simpa using this
theorem numGo_dec : ∀ (L : List UInt8) (k acc m c : Nat), k ≤ 9 → numGo L k acc = (m, c, 0) → ∃ n, n * 128 ^ k < 18446744073709551616 ∧ (k = 0 ∨ 0 < n) ∧ m = acc + n * 128 ^ k ∧ c = k + (numL (10 - k) n).length ∧ L = numL (10 - k) n ++ L.drop (c - k)
  | [], k, acc, m, c, _, h => by simp [numGo] at h
  | x :: r, k, acc, m, c, hk, h => by
    unfold numGo at h
    split at h
    · simp at h
    rename_i h1
    split at h
    · rename_i h2
      have hk8 : k ≤ 8 := by
        rcases Nat.lt_or_ge k 9 with h3 | h3
        · omega
        · exact absurd ⟨show k = 9 by omega, by omega⟩ h1
      obtain ⟨n, a1, a2, a3, a4, a5⟩ := numGo_dec r (k + 1) _ m c (by omega) h
      have hn : 0 < n := by omega
      have hx := x.toNat_lt
      refine ⟨x.toNat % 128 + n * 128, ?_, .inr (by omega), ?_, ?_, ?_⟩
      · exact sum_small hk8 a1 (Nat.mod_lt _ (by decide))
      · rw [a3, pow128, Nat.add_mul, Nat.mul_assoc, Nat.add_assoc]
      · have e : numL (10 - k) (x.toNat % 128 + n * 128) = x :: numL (10 - (k + 1)) n := by
          rw [show 10 - k = (10 - (k + 1)) + 1 by omega, numL, if_neg (by omega), show (x.toNat % 128 + n * 128) % 128 + 128 = x.toNat by omega, show (x.toNat % 128 + n * 128) / 128 = n by omega]
          simp
        rw [e, List.length_cons, a4]
        omega
      · have e : numL (10 - k) (x.toNat % 128 + n * 128) = x :: numL (10 - (k + 1)) n := by
          rw [show 10 - k = (10 - (k + 1)) + 1 by omega, numL, if_neg (by omega), show (x.toNat % 128 + n * 128) % 128 + 128 = x.toNat by omega, show (x.toNat % 128 + n * 128) / 128 = n by omega]
          simp
        rw [e, List.cons_append, show c - k = (c - (k + 1)) + 1 by omega, List.drop_succ_cons, ← a5]
    · rename_i h2
      split at h
      · simp at h
      rename_i h3
      simp only [Prod.mk.injEq, and_true] at h
      obtain ⟨rfl, rfl⟩ := h
      have e : numL (10 - k) x.toNat = [x] := by
        rw [show 10 - k = (9 - k) + 1 by omega, numL, if_pos (by omega)]
        simp
      refine ⟨x.toNat, ?_, by omega, by rw [Nat.mod_eq_of_lt (by omega)], by rw [e]; rfl, ?_⟩
      · rcases Nat.lt_or_ge k 9 with h4 | h4
        · exact one_small (by omega) (by omega)
        · obtain rfl : k = 9 := by omega
          have : x.toNat ≤ 1 := by
            rcases Nat.lt_or_ge 1 x.toNat with h5 | h5
            · exact absurd ⟨rfl, h5⟩ h1
            · exact h5
          have h3 : (128 : Nat) ^ 9 = 9223372036854775808 := by decide
          rw [h3]
          omega
      · rw [e, show k + 1 - k = 1 by omega]
        rfl
theorem numGo_err : ∀ (L : List UInt8) (k acc m c : Nat) (e : Int), numGo L k acc = (m, c, e) → e ≠ 0 → m = 0 ∧ c = 0
  | [], k, acc, m, c, e, h, he => by simp [numGo] at h; omega
  | x :: r, k, acc, m, c, e, h, he => by
    unfold numGo at h
    split at h
    · simp at h; omega
    split at h
    · exact numGo_err r _ _ m c e h he
    split at h
    · simp at h; omega
    · simp only [Prod.mk.injEq] at h; exact absurd h.2.2.symm he
theorem numL_pos (f n : Nat) : 0 < (numL (f + 1) n).length := by unfold numL; split <;> simp
theorem numL_le : ∀ f n : Nat, (numL f n).length ≤ f
  | 0, _ => Nat.le_refl _
  | f + 1, n => by
    unfold numL
    split
    · simp
    · simp only [List.length_cons]; have := numL_le f (n / 128); omega
/-- A number at a place of a text. -/
def rdNum (s : ByteArray) (a : Int) : Int × Int × Int :=
  if a < 0 ∨ (s.size : Int) < a then (0, 0, 15) else
    let t := numGo (s.data.toList.drop a.toNat) 0 0
    if t.2.2 = 0 then ((t.1 : Int), a + t.2.1, 0) else (0, 0, t.2.2)
theorem rdNum_bounds {s : ByteArray} {a n b : Int} (h : rdNum s a = (n, b, 0)) : 0 ≤ a ∧ 0 ≤ n ∧ n < 18446744073709551616 ∧ a < b ∧ b ≤ s.size ∧ (s.data.toList.drop a.toNat) = numL 10 n.toNat ++ s.data.toList.drop b.toNat := by
  unfold rdNum at h
  split at h
  · simp at h
  rename_i h1
  simp only at h
  split at h
  · rename_i h2
    obtain ⟨m, c, e, he⟩ : ∃ m c e, numGo (s.data.toList.drop a.toNat) 0 0 = (m, c, e) := ⟨_, _, _, rfl⟩
    rw [he] at h h2
    simp only at h2
    subst h2
    simp only [Prod.mk.injEq, and_true] at h
    obtain ⟨rfl, rfl⟩ := h
    obtain ⟨n, a1, -, a3, a4, a5⟩ := numGo_dec _ 0 0 m c (by omega) he
    simp only [Nat.pow_zero, Nat.mul_one, Nat.zero_add, Nat.sub_zero] at a1 a3 a4 a5
    subst a3
    have hp : 0 < (numL 10 m).length := numL_pos 9 m
    have hl := congrArg List.length a5
    rw [List.length_append, List.length_drop, List.length_drop, List.length_drop] at hl
    have hs : s.data.toList.length = s.size := by rw [Array.length_toList]; rfl
    rw [hs] at hl
    refine ⟨by omega, by omega, by omega, by omega, by omega, ?_⟩
    rw [Int.toNat_natCast, show (a + (c : Int)).toNat = a.toNat + c by omega, ← List.drop_drop]
    exact a5
  · rename_i h2
    simp only [Prod.mk.injEq] at h
    exact absurd h.2.2 h2
theorem rdNum_enc {s : ByteArray} {a n : Nat} (hn : n < 18446744073709551616) {rest : List UInt8} (h : s.data.toList.drop a = numL 10 n ++ rest) : rdNum s (a : Int) = ((n : Int), ((a + (numL 10 n).length : Nat) : Int), 0) := by
  have hs : s.data.toList.length = s.size := by rw [Array.length_toList]; rfl
  have hl := congrArg List.length h
  rw [List.length_append, List.length_drop, hs] at hl
  have hp : 0 < (numL 10 n).length := numL_pos 9 n
  unfold rdNum
  rw [if_neg (by omega)]
  simp only [Int.toNat_natCast]
  rw [h, numGo_enc 10 0 n 0 rest rfl (by omega) (.inl rfl)]
  simp
end Go.Proofs.Ythcoiabgemclbaa.PD
/- code.ReadNumber, ReadText, ReadSigned. -/
namespace Go.Proofs.Ythcoiabgemclbaa.PD
open Go.RowKit Go.Shelf Go.Proofs.YthcoiabgemclbaaW.PrintWords Go.Proofs.YthcoiabgemclbaaW.PrintLast Go.Proofs.YthcoiabgemclbaaW.PrintMore
set_option linter.unusedVariables false
set_option linter.unusedSimpArgs false
attribute [local go_sem] isSome_setCell
theorem bits_and127u8 : ∀ m : Fin 256, bits .and .u8 ((m.val : Nat) : Int) 127 = ((m.val % 128 : Nat) : Int) := by decide +kernel
theorem drop_byte {s : ByteArray} {j i : Nat} (hj : j = i) (h : j < s.size) : s.data.toList.drop i = s[j] :: s.data.toList.drop (i + 1) := by
  subst hj
  have h2 : j < s.data.toList.length := by rw [Array.length_toList]; exact h
  rw [List.drop_eq_getElem_cons h2]
  rfl
theorem rdNum_of {s : ByteArray} {b : Nat} (hb : b ≤ s.size) {t : Nat × Nat × Int} (h : numGo (s.data.toList.drop b) 0 0 = t) : rdNum s (b : Int) = if t.2.2 = 0 then ((t.1 : Int), (b : Int) + t.2.1, 0) else (0, 0, t.2.2) := by
  unfold rdNum
  rw [if_neg (by omega), Int.toNat_natCast, h]
theorem next_lt {n c k : Nat} (h : n < 128 ^ k) : n + c % 128 * 128 ^ k < 128 ^ (k + 1) := by
  have h1 : c % 128 * 128 ^ k ≤ 127 * 128 ^ k := Nat.mul_le_mul_right _ (by omega)
  rw [pow128]
  omega
theorem or_eq {n k : Nat} {c : UInt8} (hk : k ≤ 9) (hn : n < 128 ^ k) (hc : k = 9 → c.toNat ≤ 1) :
    bits .or .u64 (n : Int) (IntKind.u64.wrap (IntKind.u64.wrap (bits .and .u8 ((c.toNat : Nat) : Int) 127) * 2 ^ (7 * k))) = ((n + c.toNat % 128 * 128 ^ k : Nat) : Int) := by
  have h1 : bits .and .u8 ((c.toNat : Nat) : Int) 127 = ((c.toNat % 128 : Nat) : Int) := bits_and127u8 ⟨c.toNat, c.toNat_lt⟩
  have h2 : (2 : Int) ^ (7 * k) = ((128 ^ k : Nat) : Int) := by
    rw [Int.pow_mul]
    push_cast
    rfl
  have h3 : c.toNat % 128 * 128 ^ k < 18446744073709551616 := by
    rcases Nat.lt_or_ge k 9 with h | h
    · exact one_small (by omega) (by omega)
    · obtain rfl : k = 9 := by omega
      have := hc rfl
      have e : (128 : Nat) ^ 9 = 9223372036854775808 := by decide
      rw [e]
      omega
  have h4 : n < 18446744073709551616 := by
    have : 128 ^ k ≤ 128 ^ 9 := Nat.pow_le_pow_right (by decide) hk
    have e : (128 : Nat) ^ 9 = 9223372036854775808 := by decide
    omega
  have w0 : IntKind.u64.wrap ((c.toNat % 128 : Nat) : Int) = ((c.toNat % 128 : Nat) : Int) := by rw [IntKind.wrap_u64]; omega
  have w1 : IntKind.u64.wrap (((c.toNat % 128 * 128 ^ k : Nat)) : Int) = ((c.toNat % 128 * 128 ^ k : Nat) : Int) := by
    generalize c.toNat % 128 * 128 ^ k = q at h3 ⊢
    rw [IntKind.wrap_u64]
    omega
  rw [h1, w0, h2, ← Int.natCast_mul, w1, u64_or_nat _ _ h4 h3]
  congr 1
  have e7 : 128 ^ k = 2 ^ (7 * k) := by rw [Nat.pow_mul]
  rw [e7] at hn ⊢
  rw [Nat.or_comm, Nat.mul_comm, ← Nat.two_pow_add_eq_or_of_lt hn]
  omega
set_option maxRecDepth 100000 in
set_option maxHeartbeats 4000000 in
theorem readNumber_calls (s : ByteArray) (a : Int) (w : World) (hs : s.size ≤ 140737488355328) :
    Calls Try.prog 33 #[.string s, .int .i64 a] w fun e w' => e = .returned (.tuple #[.int .u64 (rdNum s a).1, .int .i64 (rdNum s a).2.1, .int .i64 (rdNum s a).2.2]) ∧ w' = w := by
  by_cases h1 : a < 0
  · have h1b : decide (a < 0) = true := decide_eq_true h1
    have hr : rdNum s a = (0, 0, 15) := by unfold rdNum; rw [if_pos (.inl h1)]
    have HR := Aside0.mk hr
    clear hr h1
    go_enter Try.func33, Try.ntmps33
    go_wp2
    go_step3
    go_wp2
    try rw [Exit.noGoto_ret]
    refine bodyPost_ret (results_tmp3 rfl _ _ _) rfl ?_
    rw [HR.out]
    exact ⟨rfl, rfl⟩
  · have h1b : decide (a < 0) = false := decide_eq_false h1
    by_cases h2 : (s.size : Int) < a
    · have h2b : decide (a > (s.size : Int)) = true := decide_eq_true h2
      have hr : rdNum s a = (0, 0, 15) := by unfold rdNum; rw [if_pos (.inr h2)]
      have HR := Aside0.mk hr
      clear hr h1 h2
      go_enter Try.func33, Try.ntmps33
      go_wp2
      go_step3
      go_wp2
      try rw [Exit.noGoto_ret]
      refine bodyPost_ret (results_tmp3 rfl _ _ _) rfl ?_
      rw [HR.out]
      exact ⟨rfl, rfl⟩
    · have h2b : decide (a > (s.size : Int)) = false := decide_eq_false h2
      obtain ⟨b, rfl⟩ := Int.eq_ofNat_of_zero_le (show 0 ≤ a by omega)
      have hbs : b ≤ s.size := by omega
      go_enter Try.func33, Try.ntmps33
      go_wp2
      go_step3
      go_wp2
      go_step3
      go_wp2
      go_loopg [7, 8, 9] (s.size - b) (fun g v7 v8 v9 w' => ∃ k n : Nat, k + b + g = s.size ∧ k ≤ 9 ∧ v7 = .int .u64 (n : Int) ∧ v8 = .int .i64 ((7 * k : Nat) : Int) ∧ v9 = .int .i64 ((b + k : Nat) : Int) ∧ n < 128 ^ k ∧ Aside0 (numGo (s.data.toList.drop (b + k)) k n = numGo (s.data.toList.drop b) 0 0) ∧ w = w')
      case atStart => exact ⟨0, 0, by omega, by omega, rfl, rfl, rfl, by simp, ⟨rfl⟩, rfl⟩
      case round =>
        obtain ⟨k, n, hkg, hk9, rfl, rfl, rfl, hn, HG, rfl⟩ := hrel
        have HN := Aside0.mk hn
        clear hn
        by_cases hlt : b + k < s.size
        · have hlb : decide (((b + k : Nat) : Int) < (s.size : Int)) = true := decide_eq_true (by omega)
          obtain ⟨j, hj⟩ : ∃ j, j = b + k := ⟨_, rfl⟩
          rw [← hj] at hlb hlt ⊢
          have hp : (0 ≤ (j : Int)) = True := eq_true (by omega)
          have hq : ((j : Int) < (s.size : Int)) = True := eq_true (by omega)
          have HJ := Aside0.mk hj
          clear hj
          obtain ⟨c, hc⟩ : ∃ c : UInt8, c = s[j] := ⟨_, rfl⟩
          have hdr : s.data.toList.drop (b + k) = c :: s.data.toList.drop (b + k + 1) := by rw [hc]; exact drop_byte HJ.out hlt
          have hc2 : s[j].toNat = c.toNat := by rw [hc]
          have HC2 := Aside0.mk hc2
          clear hc hc2
          have hg := HG.out
          rw [hdr] at hg
          clear hdr
          have HG2 := Aside0.mk hg
          clear hg HG
          have hcl := c.toNat_lt
          by_cases c1 : k = 9 ∧ 1 < c.toNat
          · have hr : rdNum s (b : Int) = (0, 0, 10) := rdNum_of (by omega) (t := (0, 0, 10)) (by rw [← HG2.out]; unfold numGo; rw [if_pos c1])
            have HR := Aside0.mk hr
            have t1 : ((7 * (k : Int)) == 63) = true := beq_iff_eq.2 (by omega)
            have t2 : decide (((s[j].toNat : Nat) : Int) > 1) = true := decide_eq_true (by rw [HC2.out]; omega)
            clear hr c1
            go_wp2
            try rw [Exit.noGoto_ret]
            refine bodyPost_ret (results_tmp3 rfl _ _ _) rfl ?_
            rw [HR.out]
            exact ⟨rfl, rfl⟩
          · have HC1 := Aside0.mk c1
            have hor := or_eq (n := n) (k := k) (c := c) hk9 HN.out (fun h => by omega)
            rw [← HC2.out] at hor
            obtain ⟨m, hm⟩ : ∃ m, m = n + c.toNat % 128 * 128 ^ k := ⟨_, rfl⟩
            rw [HC2.out, ← hm, ← HC2.out] at hor
            have HM := Aside0.mk hm
            clear hm
            have ht : (((7 * (k : Int)) == 63) = true ∧ decide (((s[j].toNat : Nat) : Int) > 1) = false) ∨ ((7 * (k : Int)) == 63) = false := by
              by_cases h : k = 9
              · exact .inl ⟨beq_iff_eq.2 (by omega), decide_eq_false (by rw [HC2.out]; omega)⟩
              · exact .inr (beq_eq_false_iff_ne.2 (by omega))
            clear c1
            by_cases c2 : 128 ≤ c.toNat
            · have t3 : decide (((s[j].toNat : Nat) : Int) ≥ 128) = true := decide_eq_true (by rw [HC2.out]; omega)
              have hk8 : k ≤ 8 := by have := HC1.out; omega
              have hnext : numGo (s.data.toList.drop (b + (k + 1))) (k + 1) m = numGo (s.data.toList.drop b) 0 0 := by
                rw [← HG2.out, HM.out]
                conv => rhs; unfold numGo
                rw [if_neg HC1.out, if_pos c2]
                rfl
              have HNX := Aside0.mk hnext
              have hlt2 : b + k < s.size := by rw [← HJ.out]; exact hlt
              have HML : Aside0 (m < 128 ^ (k + 1)) := ⟨by rw [HM.out]; exact next_lt HN.out⟩
              clear hnext
              have t1 : ((7 * (k : Int)) == 63) = false := beq_eq_false_iff_ne.2 (by omega)
              have e : ((j : Int) + 1) = ((b + (k + 1) : Nat) : Int) := by have := HJ.out; omega
              have HE := Aside0.mk e
              clear e ht
              go_wp2
              go_roundg (s.size - (b + k + 1))
              case measure => omega
              case rel => exact ⟨k + 1, m, by omega, by omega, rfl, by go_num, by rw [HE.out], HML.out, HNX, rfl⟩
            · have t3 : decide (((s[j].toNat : Nat) : Int) ≥ 128) = false := decide_eq_false (by rw [HC2.out]; omega)
              by_cases c3 : c.toNat = 0 ∧ 0 < k
              · have hr : rdNum s (b : Int) = (0, 0, 10) := rdNum_of (by omega) (t := (0, 0, 10)) (by rw [← HG2.out]; unfold numGo; rw [if_neg HC1.out, if_neg c2, if_pos c3])
                have HR := Aside0.mk hr
                have t4 : ((((s[j].toNat : Nat) : Int)) == 0) = true := beq_iff_eq.2 (by rw [HC2.out]; omega)
                have t5 : decide (b < j) = true := decide_eq_true (by rw [HJ.out]; omega)
                clear hr c3
                rcases ht with ⟨t1, t2⟩ | t1 <;>
                  (go_wp2
                   try rw [Exit.noGoto_ret]
                   refine bodyPost_ret (results_tmp3 rfl _ _ _) rfl ?_
                   rw [HR.out]
                   exact ⟨rfl, rfl⟩)
              · have hr : rdNum s (b : Int) = ((m : Int), (b : Int) + ((k + 1 : Nat) : Int), 0) := rdNum_of (by omega) (t := (m, k + 1, 0)) (by rw [← HG2.out, HM.out]; unfold numGo; rw [if_neg HC1.out, if_neg c2, if_neg c3])
                have HR := Aside0.mk hr
                have ht2 : (((((s[j].toNat : Nat) : Int)) == 0) = true ∧ decide (b < j) = false) ∨ ((((s[j].toNat : Nat) : Int)) == 0) = false := by
                  by_cases h : c.toNat = 0
                  · exact .inl ⟨beq_iff_eq.2 (by rw [HC2.out]; omega), decide_eq_false (by rw [HJ.out]; omega)⟩
                  · exact .inr (beq_eq_false_iff_ne.2 (by rw [HC2.out]; omega))
                clear hr c3
                rcases ht with ⟨t1, t2⟩ | t1 <;> rcases ht2 with ⟨t4, t5⟩ | t4 <;>
                  (go_wp2
                   try rw [Exit.noGoto_ret]
                   refine bodyPost_ret (results_tmp3 rfl _ _ _) rfl ?_
                   have e : ((j : Int) + 1) = (b : Int) + ((k + 1 : Nat) : Int) := by have := HJ.out; omega
                   rw [HR.out, ← e]
                   exact ⟨rfl, rfl⟩)
        · have hlb : decide (((b + k : Nat) : Int) < (s.size : Int)) = false := decide_eq_false (by omega)
          have hr : rdNum s (b : Int) = (0, 0, 11) := rdNum_of (by omega) (t := (0, 0, 11)) (by
            rw [← HG.out, List.drop_eq_nil_of_le (by rw [Array.length_toList]; exact Nat.le_of_not_lt hlt)]
            rfl)
          have HR := Aside0.mk hr
          clear hr
          go_wp2
          try rw [Exit.noGoto_ret]
          refine bodyPost_ret (results_tmp3 rfl _ _ _) rfl ?_
          rw [HR.out]
          exact ⟨rfl, rfl⟩
end Go.Proofs.Ythcoiabgemclbaa.PD
/- code.ReadText and code.ReadSigned. -/
namespace Go.Proofs.Ythcoiabgemclbaa.PD
open Go.RowKit Go.Shelf Go.Proofs.YthcoiabgemclbaaW.PrintWords Go.Proofs.YthcoiabgemclbaaW.PrintLast Go.Proofs.YthcoiabgemclbaaW.PrintMore
set_option linter.unusedVariables false
set_option linter.unusedSimpArgs false
attribute [local go_sem] isSome_setCell
/-- A text at a place of a text. -/
def rdText (s : ByteArray) (a : Int) : ByteArray × Int × Int :=
  if (rdNum s a).2.2 ≠ 0 then (⟨#[]⟩, 0, (rdNum s a).2.2)
  else if (rdNum s a).1 > (s.size : Int) - (rdNum s a).2.1 then (⟨#[]⟩, 0, 11)
  else (s.extract (rdNum s a).2.1.toNat ((rdNum s a).2.1 + (rdNum s a).1).toNat, (rdNum s a).2.1 + (rdNum s a).1, 0)
def sgn (n : Int) : Int := if n % 2 = 1 then -(n / 2) - 1 else n / 2
/-- A signed number at a place of a text. -/
def rdSig (s : ByteArray) (a : Int) : Int × Int × Int := (sgn (rdNum s a).1, (rdNum s a).2.1, (rdNum s a).2.2)
theorem rdNum_e (s : ByteArray) (a : Int) : (rdNum s a).2.2 = 0 ∨ rdNum s a = (0, 0, (rdNum s a).2.2) := by
  unfold rdNum
  split
  · right; rfl
  · simp only
    split
    · left; rfl
    · right; rfl
set_option maxRecDepth 100000 in
set_option maxHeartbeats 4000000 in
theorem readText_calls (s : ByteArray) (a : Int) (w : World) (hs : s.size ≤ 140737488355328) :
    Calls Try.prog 35 #[.string s, .int .i64 a] w fun e w' => e = .returned (.tuple #[.string (rdText s a).1, .int .i64 (rdText s a).2.1, .int .i64 (rdText s a).2.2]) ∧ w' = w := by
  have HC := Aside0.mk (readNumber_calls s a w hs)
  obtain ⟨n, b, e, hr⟩ : ∃ n b e, rdNum s a = (n, b, e) := ⟨_, _, _, rfl⟩
  by_cases he : e = 0
  · subst he
    obtain ⟨g0, g1, g2, g3, g4, g5⟩ := rdNum_bounds hr
    clear g5
    have HCC := HC.out
    rw [hr] at HCC
    have HC2 := Aside0.mk HCC
    clear HCC HC
    by_cases hn : n > (s.size : Int) - b
    · have ht : rdText s a = (⟨#[]⟩, 0, 11) := by unfold rdText; rw [hr]; simp only; rw [if_neg (by simp), if_pos hn]
      have HT := Aside0.mk ht
      clear ht hr
      have t1 : decide (n > (s.size : Int) - b) = true := decide_eq_true hn
      go_enter Try.func35, Try.ntmps35
      go_wp2_with (go_at_call 33; refine HC2.out.mono ?_; rintro e w' ⟨rfl, rfl⟩)
      refine bodyPost_ret (results_tmp3 rfl _ _ _) rfl ?_
      rw [HT.out]
      exact ⟨rfl, rfl⟩
    · have ht : rdText s a = (s.extract b.toNat (b + n).toNat, b + n, 0) := by unfold rdText; rw [hr]; simp only; rw [if_neg (by simp), if_neg hn]
      have HT := Aside0.mk ht
      clear ht hr
      have t1 : decide (n > (s.size : Int) - b) = false := decide_eq_false hn
      have q1 : (0 ≤ b) = True := eq_true (by omega)
      have q2 : (b ≤ b + n) = True := eq_true (by omega)
      have q3 : (b + n ≤ (s.size : Int)) = True := eq_true (by omega)
      go_enter Try.func35, Try.ntmps35
      go_wp2_with (go_at_call 33; refine HC2.out.mono ?_; rintro e w' ⟨rfl, rfl⟩)
      refine bodyPost_ret (results_tmp3 rfl _ _ _) rfl ?_
      rw [HT.out]
      exact ⟨rfl, rfl⟩
  · have hz : rdNum s a = (0, 0, e) := by
      rcases rdNum_e s a with h | h
      · rw [hr] at h; exact absurd h he
      · rw [hr] at h ⊢; exact h
    have HCC := HC.out
    rw [hz] at HCC
    have HC2 := Aside0.mk HCC
    have ht : rdText s a = (⟨#[]⟩, 0, e) := by unfold rdText; rw [hz]; simp only; rw [if_pos he]
    have HT := Aside0.mk ht
    have t1 : (e != 0) = true := bne_iff_ne.2 he
    clear ht hr hz HCC HC he
    go_enter Try.func35, Try.ntmps35
    go_wp2_with (go_at_call 33; refine HC2.out.mono ?_; rintro e w' ⟨rfl, rfl⟩)
    refine bodyPost_ret (results_tmp3 rfl _ _ _) rfl ?_
    rw [HT.out]
    exact ⟨rfl, rfl⟩
theorem rdNum_range (s : ByteArray) (a : Int) : 0 ≤ (rdNum s a).1 ∧ (rdNum s a).1 < 18446744073709551616 := by
  rcases rdNum_e s a with h | h
  · have := rdNum_bounds (s := s) (a := a) (n := (rdNum s a).1) (b := (rdNum s a).2.1) (by rw [← h])
    exact ⟨this.2.1, this.2.2.1⟩
  · rw [h]; simp
theorem xor_i64_0 (a : Nat) (h : a < 9223372036854775808) : bits .xor .i64 (a : Int) 0 = (a : Int) := by
  show IntKind.i64.wrap ((BitVec.ofInt 64 (a : Int) ^^^ BitVec.ofInt 64 0).toNat : Int) = _
  rw [show BitVec.ofInt 64 0 = 0#64 from rfl, BitVec.xor_zero, BitVec.ofInt_natCast, BitVec.toNat_ofNat, Nat.mod_eq_of_lt (by omega), IntKind.wrap_i64]
  omega
theorem xor_i64_m (a : Nat) (h : a < 9223372036854775808) : bits .xor .i64 (a : Int) (-1) = -(a : Int) - 1 := by
  show IntKind.i64.wrap ((BitVec.ofInt 64 (a : Int) ^^^ BitVec.ofInt 64 (-1)).toNat : Int) = _
  rw [show BitVec.ofInt 64 (-1) = BitVec.allOnes 64 from rfl, BitVec.xor_allOnes, BitVec.toNat_not, BitVec.ofInt_natCast, BitVec.toNat_ofNat, Nat.mod_eq_of_lt (show a < 2 ^ 64 by omega), IntKind.wrap_i64]
  omega
theorem xor_sgn {n : Int} (h0 : 0 ≤ n) (h1 : n < 18446744073709551616) : bits BinOp.xor IntKind.i64 (n / 2) (wrap64 (-wrap64 (bits BinOp.and IntKind.u64 n 1))) = sgn n := by
  obtain ⟨a, rfl⟩ := Int.eq_ofNat_of_zero_le h0
  have h2 := u64_and_nat a 1 (by omega) (by omega)
  rw [show ((1 : Nat) : Int) = 1 from rfl] at h2
  rw [h2, Nat.and_one_is_mod, show ((a : Int) / 2) = ((a / 2 : Nat) : Int) by omega]
  unfold sgn
  by_cases h : a % 2 = 1
  · rw [h, if_pos (by omega), show wrap64 (-wrap64 ((1 : Nat) : Int)) = -1 by simp [wrap64], xor_i64_m _ (by omega)]
    omega
  · rw [show a % 2 = 0 by omega, if_neg (by omega), show wrap64 (-wrap64 ((0 : Nat) : Int)) = 0 by simp [wrap64], xor_i64_0 _ (by omega)]
    omega
set_option maxRecDepth 100000 in
set_option maxHeartbeats 4000000 in
theorem readSigned_calls (s : ByteArray) (a : Int) (w : World) (hs : s.size ≤ 140737488355328) :
    Calls Try.prog 37 #[.string s, .int .i64 a] w fun e w' => e = .returned (.tuple #[.int .i64 (rdSig s a).1, .int .i64 (rdSig s a).2.1, .int .i64 (rdSig s a).2.2]) ∧ w' = w := by
  have hg := rdNum_range s a
  have HT : Aside0 (rdSig s a = (sgn (rdNum s a).1, (rdNum s a).2.1, (rdNum s a).2.2)) := ⟨rfl⟩
  have HC := Aside0.mk (readNumber_calls s a w hs)
  obtain ⟨n, b, e, hr⟩ : ∃ n b e, rdNum s a = (n, b, e) := ⟨_, _, _, rfl⟩
  rw [hr] at HC HT hg
  simp only at HC HT hg
  obtain ⟨h0, h1⟩ := hg
  clear hr
  go_enter Try.func37, Try.ntmps37
  go_wp2_with (go_at_call 33; refine HC.out.mono ?_; rintro e w' ⟨rfl, rfl⟩)
  have e : bits BinOp.xor IntKind.i64 (n / 2) (wrap64 (-wrap64 (bits BinOp.and IntKind.u64 n 1))) = sgn n := xor_sgn h0 h1
  rw [e]
  refine bodyPost_ret (results_tmp3 rfl _ _ _) rfl ?_
  rw [HT.out]
  exact ⟨rfl, rfl⟩
end Go.Proofs.Ythcoiabgemclbaa.PD
/- span.read: one reading, by a reader that keeps its place and its error. -/
namespace Go.Proofs.Ythcoiabgemclbaa.PD
open Go.RowKit Go.Shelf Go.Proofs.YthcoiabgemclbaaW.PrintWords Go.Proofs.YthcoiabgemclbaaW.PrintLast Go.Proofs.YthcoiabgemclbaaW.PrintMore
set_option linter.unusedVariables false
set_option linter.unusedSimpArgs false
attribute [local go_sem] isSome_setCell
def Rdr (w : World) (R : Nat) (s : ByteArray) (a e : Int) : Prop := w.heap[R]? = some (.cells #[.string s, .int .i64 a, .int .i64 e] 57 (0, 0))
theorem rdr_set {w : World} {R : Nat} {s : ByteArray} {a e : Int} (h : Rdr w R s a e) (a' e' : Int) : Rdr ((w.setCell ⟨R, 1, none⟩ (.int .i64 a')).setCell ⟨R, 2, none⟩ (.int .i64 e')) R s a' e' := blk_set (blk_set h 1 _) 2 _
theorem grown_set2 (w : World) (R : Nat) (u v : Value) : w.grownBy ((w.setCell ⟨R, 1, none⟩ u).setCell ⟨R, 2, none⟩ v) (some R) := (grown_set w R 1 u).trans (grown_set _ R 2 v)
theorem grown_set3 (w : World) (R : Nat) (u v : Value) : w.grownBy ((w.setCell ⟨R, 1, none⟩ u).setCell ⟨R, 2, none⟩ v).drew (some R) := ⟨(grown_set2 w R u v).os, (grown_set2 w R u v).tape, (grown_set2 w R u v).output, (grown_set2 w R u v).size, (grown_set2 w R u v).block⟩
set_option maxRecDepth 100000 in
set_option maxHeartbeats 4000000 in
theorem read32_calls (R : Nat) (s : ByteArray) (a : Int) (x : Int) (a' e' : Int) (w : World) (hr : Rdr w R s a 0) (hc : ∀ W, Calls Try.prog 33 #[.string s, .int .i64 a] W fun e w' => e = .returned (.tuple #[.int .u64 x, .int .i64 a', .int .i64 e']) ∧ w' = W) :
    Calls Try.prog 32 #[.pointer (some ⟨R, 0, none⟩), .func (.func 33) #[] #[]] w fun e w' => e = .returned (.int .u64 x) ∧ Rdr w' R s a' e' ∧ w.grownBy w' (some R) := by
  have y0 : w.cell? ⟨R, 0, none⟩ = some (.string s) := (blk_cell hr 0).trans rfl
  have y1 : w.cell? ⟨R, 1, none⟩ = some (.int .i64 a) := (blk_cell hr 1).trans rfl
  have y2 : w.cell? ⟨R, 2, none⟩ = some (.int .i64 0) := (blk_cell hr 2).trans rfl
  have f1 := blk_frozen hr 1
  have f2 := blk_frozen hr 2
  have HC := Aside0.mk hc
  have HR := Aside0.mk hr
  clear hc hr
  go_enter Try.func32, Try.ntmps32
  go_wp2
  go_region_with (go_at_call 33; refine (HC.out _).mono ?_; rintro e w' ⟨rfl, rfl⟩)
  all_goals
    go_wp2
    go_ret
    exact ⟨rfl, rdr_set HR.out a' e', grown_set3 w R _ _⟩
set_option maxRecDepth 100000 in
set_option maxHeartbeats 4000000 in
theorem read32_none (R : Nat) (s : ByteArray) (a e : Int) (w : World) (he : e ≠ 0) (hr : Rdr w R s a e) :
    Calls Try.prog 32 #[.pointer (some ⟨R, 0, none⟩), .func (.func 33) #[] #[]] w fun e' w' => e' = .returned (.int .u64 0) ∧ w' = w := by
  have y2 : w.cell? ⟨R, 2, none⟩ = some (.int .i64 e) := (blk_cell hr 2).trans rfl
  have t1 : (e == 0) = false := beq_eq_false_iff_ne.2 he
  clear hr he
  go_enter Try.func32, Try.ntmps32
  go_wp2
  go_ret
  exact ⟨rfl, rfl⟩
set_option maxRecDepth 100000 in
set_option maxHeartbeats 4000000 in
theorem read34_calls (R : Nat) (s : ByteArray) (a : Int) (x : ByteArray) (a' e' : Int) (w : World) (hr : Rdr w R s a 0) (hc : ∀ W, Calls Try.prog 35 #[.string s, .int .i64 a] W fun e w' => e = .returned (.tuple #[.string x, .int .i64 a', .int .i64 e']) ∧ w' = W) :
    Calls Try.prog 34 #[.pointer (some ⟨R, 0, none⟩), .func (.func 35) #[] #[]] w fun e w' => e = .returned (.string x) ∧ Rdr w' R s a' e' ∧ w.grownBy w' (some R) := by
  have y0 : w.cell? ⟨R, 0, none⟩ = some (.string s) := (blk_cell hr 0).trans rfl
  have y1 : w.cell? ⟨R, 1, none⟩ = some (.int .i64 a) := (blk_cell hr 1).trans rfl
  have y2 : w.cell? ⟨R, 2, none⟩ = some (.int .i64 0) := (blk_cell hr 2).trans rfl
  have f1 := blk_frozen hr 1
  have f2 := blk_frozen hr 2
  have HC := Aside0.mk hc
  have HR := Aside0.mk hr
  clear hc hr
  go_enter Try.func34, Try.ntmps34
  go_wp2
  go_region_with (go_at_call 35; refine (HC.out _).mono ?_; rintro e w' ⟨rfl, rfl⟩)
  all_goals
    go_wp2
    go_ret
    exact ⟨rfl, rdr_set HR.out a' e', grown_set3 w R _ _⟩
set_option maxRecDepth 100000 in
set_option maxHeartbeats 4000000 in
theorem read34_none (R : Nat) (s : ByteArray) (a e : Int) (w : World) (he : e ≠ 0) (hr : Rdr w R s a e) :
    Calls Try.prog 34 #[.pointer (some ⟨R, 0, none⟩), .func (.func 35) #[] #[]] w fun e' w' => e' = .returned (.string ⟨#[]⟩) ∧ w' = w := by
  have y2 : w.cell? ⟨R, 2, none⟩ = some (.int .i64 e) := (blk_cell hr 2).trans rfl
  have t1 : (e == 0) = false := beq_eq_false_iff_ne.2 he
  clear hr he
  go_enter Try.func34, Try.ntmps34
  go_wp2
  go_ret
  exact ⟨rfl, rfl⟩
set_option maxRecDepth 100000 in
set_option maxHeartbeats 4000000 in
theorem read36_calls (R : Nat) (s : ByteArray) (a : Int) (x : Int) (a' e' : Int) (w : World) (hr : Rdr w R s a 0) (hc : ∀ W, Calls Try.prog 37 #[.string s, .int .i64 a] W fun e w' => e = .returned (.tuple #[.int .i64 x, .int .i64 a', .int .i64 e']) ∧ w' = W) :
    Calls Try.prog 36 #[.pointer (some ⟨R, 0, none⟩), .func (.func 37) #[] #[]] w fun e w' => e = .returned (.int .i64 x) ∧ Rdr w' R s a' e' ∧ w.grownBy w' (some R) := by
  have y0 : w.cell? ⟨R, 0, none⟩ = some (.string s) := (blk_cell hr 0).trans rfl
  have y1 : w.cell? ⟨R, 1, none⟩ = some (.int .i64 a) := (blk_cell hr 1).trans rfl
  have y2 : w.cell? ⟨R, 2, none⟩ = some (.int .i64 0) := (blk_cell hr 2).trans rfl
  have f1 := blk_frozen hr 1
  have f2 := blk_frozen hr 2
  have HC := Aside0.mk hc
  have HR := Aside0.mk hr
  clear hc hr
  go_enter Try.func36, Try.ntmps36
  go_wp2
  go_region_with (go_at_call 37; refine (HC.out _).mono ?_; rintro e w' ⟨rfl, rfl⟩)
  all_goals
    go_wp2
    go_ret
    exact ⟨rfl, rdr_set HR.out a' e', grown_set3 w R _ _⟩
set_option maxRecDepth 100000 in
set_option maxHeartbeats 4000000 in
theorem read36_none (R : Nat) (s : ByteArray) (a e : Int) (w : World) (he : e ≠ 0) (hr : Rdr w R s a e) :
    Calls Try.prog 36 #[.pointer (some ⟨R, 0, none⟩), .func (.func 37) #[] #[]] w fun e' w' => e' = .returned (.int .i64 0) ∧ w' = w := by
  have y2 : w.cell? ⟨R, 2, none⟩ = some (.int .i64 e) := (blk_cell hr 2).trans rfl
  have t1 : (e == 0) = false := beq_eq_false_iff_ne.2 he
  clear hr he
  go_enter Try.func36, Try.ntmps36
  go_wp2
  go_ret
  exact ⟨rfl, rfl⟩
end Go.Proofs.Ythcoiabgemclbaa.PD
