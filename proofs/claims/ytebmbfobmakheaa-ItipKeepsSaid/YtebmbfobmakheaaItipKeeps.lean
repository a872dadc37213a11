/- The law ItipKeeps holds of every calendar and every two texts: whatever the input, the call returns true, and its arguments read as they did. -/
import Derived.Test.YtebmbfobmakheaaItipKeeps3
import Derived.Test.YtebmbfobmakheaaItipKeeps2
namespace Go.Proofs.Ytebmbfobmakheaa.PD
open Go.RowKit Go.Shelf Go.Proofs.YtebmbfobmakheaaW.PrintWords Go.Proofs.YtebmbfobmakheaaW.PrintLast Go.Proofs.YtebmbfobmakheaaW.PrintMore
attribute [local go_sem] isSome_setCell
set_option linter.unusedVariables false
set_option linter.unusedSimpArgs false
set_option maxRecDepth 100000 in
set_option maxHeartbeats 1600000 in
theorem mk_calls (n v : ByteArray) (w : World) : Calls Try.prog 34 #[.string n, .string v] w fun e w' => e = .returned (.agg #[.string n, .slice none 0 0, .string v]) ∧ Below w.heap.size w w' := by
  have hu45 := Try.underlying45
  go_enter Try.func34, Try.ntmps34
  go_wp2
  refine bodyPost_ret (results_box45 _ 4 rfl _ _ w.heap.size n none 0 0 v rfl (alloc_at rfl)) rfl ?_
  exact ⟨rfl, below_alloc (Below.refl _ _) _⟩
structure Ex (w : World) (gc : Nat) (A : Option Addr) (cp : Nat) (W : World) : Prop where
  blk : W.heap[gc]? = some (.cells #[.string sCal, .slice none 0 0, .slice A 1 cp] 25 (0, 0))
  C : Kd.C k25 W A 1 cComps
theorem Ex.below {w : World} {gc : Nat} {A : Option Addr} {cp : Nat} {W W' : World} (h : Ex w gc A cp W) (hb : Below W.heap.size W W') : Ex w gc A cp W' := ⟨blk_below h.blk hb, Kd.C_below h.C hb⟩
theorem ex_read {W : World} {p q : Nat} (hp : W.heap[p]? = some (.cells #[.string sOrg, .slice none 0 0, .string smU, .string sAtt, .slice none 0 0, .string smV, .string sDts, .slice none 0 0, .string sDay] 45 (0, 0)))
    (hq : W.heap[q]? = some (.cells #[.string sEv, .slice (some ⟨p, 0, none⟩) 3 3, .slice none 0 0] 25 (0, 0))) : Kd.C k25 W (some ⟨q, 0, none⟩) 1 cComps := by
  have hP : Kd.C k45 W (some ⟨p, 0, none⟩) 3 cProps := by
    refine ⟨rfl, by simp, fun _ => ⟨_, rfl, fun j x hj => ?_⟩⟩
    rcases j with _ | _ | _ | j
    · simp at hj; subst hj
      refine ⟨[.string sOrg, .slice none 0 0, .string smU], rfl, k45_mk W (⟨sOrg, [], smU⟩ : S45) (Nat.le_refl _) (Kd.C_nil _ _), fun i u hu => ?_⟩
      rcases i with _ | _ | _ | i <;> simp at hu <;> subst hu <;> first | exact (blk_cell hp 0).trans rfl | exact (blk_cell hp 1).trans rfl | exact (blk_cell hp 2).trans rfl
    · simp at hj; subst hj
      refine ⟨[.string sAtt, .slice none 0 0, .string smV], rfl, k45_mk W (⟨sAtt, [], smV⟩ : S45) (Nat.le_refl _) (Kd.C_nil _ _), fun i u hu => ?_⟩
      rcases i with _ | _ | _ | i <;> simp at hu <;> subst hu <;> first | exact (blk_cell hp 3).trans rfl | exact (blk_cell hp 4).trans rfl | exact (blk_cell hp 5).trans rfl
    · simp at hj; subst hj
      refine ⟨[.string sDts, .slice none 0 0, .string sDay], rfl, k45_mk W (⟨sDts, [], sDay⟩ : S45) (Nat.le_refl _) (Kd.C_nil _ _), fun i u hu => ?_⟩
      rcases i with _ | _ | _ | i <;> simp at hu <;> subst hu <;> first | exact (blk_cell hp 6).trans rfl | exact (blk_cell hp 7).trans rfl | exact (blk_cell hp 8).trans rfl
    · simp at hj
  refine ⟨rfl, by simp, fun _ => ⟨_, rfl, fun j x hj => ?_⟩⟩
  rcases j with _ | j
  · simp at hj; subst hj
    refine ⟨[.string sEv, .slice (some ⟨p, 0, none⟩) 3 3, .slice none 0 0], rfl, k25_mk W (⟨sEv, cProps, []⟩ : S25) (Nat.le_refl _) hP (Nat.le_refl _) (Kd.C_nil _ _), fun i u hu => ?_⟩
    rcases i with _ | _ | _ | i <;> simp at hu <;> subst hu <;> first | exact (blk_cell hq 0).trans rfl | exact (blk_cell hq 1).trans rfl | exact (blk_cell hq 2).trans rfl
  · simp at hj
structure Es (w : World) (gc gd : Nat) (Aq A1 A2 : Option Addr) (c1 c2 : Nat) (W : World) : Prop where
  c : W.heap[gc]? = some (.cells #[.string sCal, .slice none 0 0, .slice Aq 1 1] 25 (0, 0))
  C : Kd.C k25 W Aq cComps.length cComps
  d : W.heap[gd]? = some (.cells #[.string sCal, .slice A1 0 c1, .slice A2 1 c2] 25 (0, 0))
  D : Kd.C k25 W A2 dComps.length dComps
  N : Kd.C k45 W A1 0 []
  B : Below w.heap.size w W
theorem Es.below {w : World} {gc gd : Nat} {Aq A1 A2 : Option Addr} {c1 c2 : Nat} {W W' : World} (h : Es w gc gd Aq A1 A2 c1 c2 W) (hb : Below W.heap.size W W') : Es w gc gd Aq A1 A2 c1 c2 W' := ⟨blk_below h.c hb, Kd.C_below h.C hb, blk_below h.d hb, Kd.C_below h.D hb, Kd.C_below h.N hb, below_step h.B hb⟩
abbrev Sx (gc gd : Nat) (Aq A1 A2 : Option Addr) (c1 c2 : Nat) (w' : World) : Prop := w'.cell? ⟨gc, 0, none⟩ = some (.string sCal) ∧ w'.cell? ⟨gc, 1, none⟩ = some (.slice none 0 0) ∧ w'.cell? ⟨gc, 2, none⟩ = some (.slice Aq 1 1) ∧ w'.cell? ⟨gd, 0, none⟩ = some (.string sCal) ∧ w'.cell? ⟨gd, 1, none⟩ = some (.slice A1 0 c1) ∧ w'.cell? ⟨gd, 2, none⟩ = some (.slice A2 1 c2)
theorem Es.held {w : World} {gc gd : Nat} {Aq A1 A2 : Option Addr} {c1 c2 : Nat} {W : World} (h : Es w gc gd Aq A1 A2 c1 c2 W) : Sx gc gd Aq A1 A2 c1 c2 W := ⟨(blk_cell h.c 0).trans rfl, (blk_cell h.c 1).trans rfl, (blk_cell h.c 2).trans rfl, (blk_cell h.d 0).trans rfl, (blk_cell h.d 1).trans rfl, (blk_cell h.d 2).trans rfl⟩
theorem field_25_1 (a b c : Value) (w : World) : (Instr.field 25 (.agg #[a, b, c]) 1).run Try.prog w = .ok b w := by kernel_rfl
attribute [local go_sem] field_25_1
def almanaclaw26_awake.f : Option Bool := some true
set_option maxRecDepth 100000 in
set_option maxHeartbeats 8000000 in
theorem almanaclaw26_awake.calls (r : Bool) (w : World) (h : almanaclaw26_awake.f = some r) : Calls Try.prog 7 #[] w fun e w' => e = .returned (.bool r) ∧ Below w.heap.size w w' := by
  obtain rfl : true = r := Option.some.inj h
  clear h
  have hu25 := Try.underlying25
  have hu45 := Try.underlying45
  have HB := Aside0.mk (Below.refl w.heap.size w)
  go_enter Try.func7, Try.ntmps7
  go_wp2_with (go_at_call 8; refine Aside0.out ?_)
  refine ⟨?_⟩
  refine (itip_User.calls 1 sMU _ _ _ pu1).mono ?_
  rintro e w1 ⟨rfl, hb⟩
  replace HB := Aside0.mk (below_step HB.out hb)
  clear hb
  go_wp2_with (go_at_call 8; refine Aside0.out ?_)
  refine ⟨?_⟩
  refine (itip_User.calls 1 sAB _ _ _ pu2).mono ?_
  rintro e w2 ⟨rfl, hb⟩
  replace HB := Aside0.mk (below_step HB.out hb)
  clear hb
  go_wp2_with (go_at_call 34; refine Aside0.out ?_)
  refine ⟨?_⟩
  refine (mk_calls sOrg smU _).mono ?_
  rintro e w3 ⟨rfl, hb⟩
  replace HB := Aside0.mk (below_step HB.out hb)
  clear hb
  go_wp2_with (go_at_call 34; refine Aside0.out ?_)
  refine ⟨?_⟩
  refine (mk_calls sAtt smV _).mono ?_
  rintro e w4 ⟨rfl, hb⟩
  replace HB := Aside0.mk (below_step HB.out hb)
  clear hb
  go_wp2_with (go_at_call 34; refine Aside0.out ?_)
  refine ⟨?_⟩
  refine (mk_calls sDts sDay _).mono ?_
  rintro e w5 ⟨rfl, hb⟩
  replace HB := Aside0.mk (below_step HB.out hb)
  clear hb
  go_wp2_with (go_at_call 19; refine Aside0.out ?_)
  refine ⟨?_⟩
  obtain ⟨W8, hW8⟩ : ∃ W8, ((w5.alloc (Obj.cells #[Value.string sOrg, Value.slice none 0 0, Value.string smU, Value.string sAtt, Value.slice none 0 0, Value.string smV, Value.string sDts, Value.slice none 0 0, Value.string sDay] 45)).alloc (Obj.cells #[Value.string sEv, Value.slice (some ⟨w5.heap.size, 0, none⟩) 3 3, Value.slice none 0 0] 25)).alloc (Obj.cells #[Value.string sCal, Value.slice none 0 0, Value.slice (some ⟨w5.heap.size + 1, 0, none⟩) 1 1] 25) = W8 := ⟨_, rfl⟩
  have kp : W8.heap[w5.heap.size]? = some (.cells #[.string sOrg, .slice none 0 0, .string smU, .string sAtt, .slice none 0 0, .string smV, .string sDts, .slice none 0 0, .string sDay] 45 (0, 0)) := by rw [← hW8]; exact blk_alloc (blk_alloc (alloc_at rfl) _) _
  have kq : W8.heap[w5.heap.size + 1]? = some (.cells #[.string sEv, .slice (some ⟨w5.heap.size, 0, none⟩) 3 3, .slice none 0 0] 25 (0, 0)) := by rw [← hW8]; exact blk_alloc (alloc_at (by simp)) _
  have kc : W8.heap[w5.heap.size + 1 + 1]? = some (.cells #[.string sCal, .slice none 0 0, .slice (some ⟨w5.heap.size + 1, 0, none⟩) 1 1] 25 (0, 0)) := by rw [← hW8]; exact alloc_at (by simp)
  have kB : Below w.heap.size w W8 := by rw [← hW8]; exact below_alloc (below_alloc (below_alloc HB.out _) _) _
  have kC := ex_read kp kq
  rw [hW8]
  clear hW8 kp kq HB
  obtain ⟨gc, hgc⟩ : ∃ g, w5.heap.size + 1 + 1 = g := ⟨_, rfl⟩
  obtain ⟨Aq, hAq⟩ : ∃ A : Option Addr, some ⟨w5.heap.size + 1, 0, none⟩ = A := ⟨_, rfl⟩
  rw [hgc, hAq] at kc
  rw [hAq] at kC
  rw [hgc, hAq]
  clear hgc hAq
  refine (itip_SetStatus.calls 0 sCal (fun _ => False) none 0 [] (fun k => k < W8.heap.size) Aq 1 cComps sMV sAcc sCal [] dComps W8 (Kd.V_nil _ _ _ _ _) (Kd.V_mk (Nat.le_refl _) (Kd.C_F k25_heap kC)) pset).mono ?_
  rintro e w9 ⟨v1, v2, rfl, hv1, hn2, hb9⟩
  obtain ⟨A1, c1, rfl⟩ := Kd.V_slice hv1
  obtain ⟨A2, c2, rfl⟩ := Kd.N_slice hn2
  have HES := Aside0.mk (show Es w gc w9.heap.size Aq A1 A2 c1 c2 (w9.alloc (.cells #[.string sCal, .slice A1 0 c1, .slice A2 1 c2] 25)) from ⟨blk_alloc (blk_below kc hb9) _, Kd.C_alloc (Kd.C_below kC hb9) _, alloc_at rfl, Kd.C_alloc (Kd.N_reads' hn2).2.2 _, Kd.C_alloc (Kd.V_reads' hv1).2.2 _, below_alloc (kB.trans (hb9.mono kB.size)) _⟩)
  have hc2 : 1 ≤ c2 := (Kd.N_reads' hn2).2.1
  have m0 : w9.cell? ⟨gc, 0, none⟩ = some (.string sCal) := (blk_cell (blk_below kc hb9) 0).trans rfl
  clear hv1 hn2 hb9 kc kC kB
  go_wp2
  obtain ⟨gd, hgd⟩ : ∃ g, w9.heap.size = g := ⟨_, rfl⟩
  rw [hgd] at HES ⊢
  clear hgd m0
  obtain ⟨x0, hx0⟩ : ∃ x, w9.alloc (.cells #[.string sCal, .slice A1 0 c1, .slice A2 1 c2] 25) = x := ⟨_, rfl⟩
  try rw [hx0] at HES ⊢
  clear hx0
  replace HES := Aside0.mk (HES.out.below (below_drew (Below.refl _ _)))
  refine start_ (n := 44) (S := Sx gc gd Aq A1 A2 c1 c2) (ds := []) #[false, false, false, false, false, false, false, false, false, false, false, false, false, false, false, false, false, false, false, false, false, false, false, false, false, false, false, false, false, false, false, false, false, false, false, false, false, false, false, false, false, false, false, false] (by kernel_rfl) rfl rfl HES.out.held (fun hHeld => ?_)
  refine pure_ (i := 0) (N := some 28) (v := ?_) (a' := ?_) #[true, false, false, false, false, false, false, false, false, false, false, false, false, false, false, false, false, false, false, false, false, false, false, false, false, false, false, false, false, false, false, false, false, false, false, false, false, false, false, false, false, false, false, false] rfl rfl (by kernel_rfl) (fun _ _ _ h => h) (Or.inl ⟨by rfl, ?_⟩) ?_ ?_
  rotate_left
  · intro w'
    go_simp
    with_reducible rfl
  rotate_left
  · simp only [Act.put, List.setIfInBounds_toArray, List.set_cons_zero, List.set_cons_succ, i64_w, i32_w]
    rfl
  refine pure_ (i := 1) (N := some 29) (v := .bool true) (a' := ?_) #[true, true, false, false, false, false, false, false, false, false, false, false, false, false, false, false, false, false, false, false, false, false, false, false, false, false, false, false, false, false, false, false, false, false, false, false, false, false, false, false, false, false, false, false] rfl rfl (by kernel_rfl) (fun _ _ _ h => h) (Or.inl ⟨by rfl, fun w' => by first | kernel_rfl | (go_simp; done) | (go_simp; with_reducible rfl)⟩) ?_ ?_
  rotate_left
  · simp only [Act.put, List.setIfInBounds_toArray, List.set_cons_zero, List.set_cons_succ, i64_w, i32_w]
    rfl
  refine pure_ (i := 2) (N := some 30) (v := ?_) (a' := ?_) #[true, true, true, false, false, false, false, false, false, false, false, false, false, false, false, false, false, false, false, false, false, false, false, false, false, false, false, false, false, false, false, false, false, false, false, false, false, false, false, false, false, false, false, false] rfl rfl (by kernel_rfl) (fun _ _ _ h => h) (Or.inl ⟨by rfl, ?_⟩) ?_ ?_
  rotate_left
  · intro w'
    go_simp
    with_reducible rfl
  rotate_left
  · simp only [Act.put, List.setIfInBounds_toArray, List.set_cons_zero, List.set_cons_succ, i64_w, i32_w]
    rfl
  refine pure_ (i := 3) (N := some 31) (v := ?_) (a' := ?_) #[true, true, true, true, false, false, false, false, false, false, false, false, false, false, false, false, false, false, false, false, false, false, false, false, false, false, false, false, false, false, false, false, false, false, false, false, false, false, false, false, false, false, false, false] rfl rfl (by kernel_rfl) (fun _ _ _ h => h) (Or.inl ⟨by rfl, ?_⟩) ?_ ?_
  rotate_left
  · intro w'
    go_simp
    with_reducible rfl
  rotate_left
  · simp only [Act.put, List.setIfInBounds_toArray, List.set_cons_zero, List.set_cons_succ, i64_w, i32_w]
    rfl
  refine pure_ (i := 4) (N := some 32) (v := ?_) (a' := ?_) #[true, true, true, true, true, false, false, false, false, false, false, false, false, false, false, false, false, false, false, false, false, false, false, false, false, false, false, false, false, false, false, false, false, false, false, false, false, false, false, false, false, false, false, false] rfl rfl (by kernel_rfl) (fun _ _ _ h => h) (Or.inl ⟨by rfl, ?_⟩) ?_ ?_
  rotate_left
  · intro w'
    go_simp
    with_reducible rfl
  rotate_left
  · simp only [Act.put, List.setIfInBounds_toArray, List.set_cons_zero, List.set_cons_succ, i64_w, i32_w]
    rfl
  refine pure_ (i := 5) (N := some 33) (v := ?_) (a' := ?_) #[true, true, true, true, true, true, false, false, false, false, false, false, false, false, false, false, false, false, false, false, false, false, false, false, false, false, false, false, false, false, false, false, false, false, false, false, false, false, false, false, false, false, false, false] rfl rfl (by kernel_rfl) (fun _ _ _ h => h) (Or.inl ⟨by rfl, ?_⟩) ?_ ?_
  rotate_left
  · intro w'
    go_simp
    with_reducible rfl
  rotate_left
  · simp only [Act.put, List.setIfInBounds_toArray, List.set_cons_zero, List.set_cons_succ, i64_w, i32_w]
    rfl
  refine pure_ (i := 6) (N := some 34) (v := ?_) (a' := ?_) #[true, true, true, true, true, true, true, false, false, false, false, false, false, false, false, false, false, false, false, false, false, false, false, false, false, false, false, false, false, false, false, false, false, false, false, false, false, false, false, false, false, false, false, false] rfl rfl (by kernel_rfl) (fun _ _ _ h => h) (Or.inl ⟨by rfl, ?_⟩) ?_ ?_
  rotate_left
  · intro w'
    go_simp
    with_reducible rfl
  rotate_left
  · simp only [Act.put, List.setIfInBounds_toArray, List.set_cons_zero, List.set_cons_succ, i64_w, i32_w]
    rfl
  refine pure_ (i := 7) (N := some 35) (v := ?_) (a' := ?_) #[true, true, true, true, true, true, true, true, false, false, false, false, false, false, false, false, false, false, false, false, false, false, false, false, false, false, false, false, false, false, false, false, false, false, false, false, false, false, false, false, false, false, false, false] rfl rfl (by kernel_rfl) (fun _ _ _ h => h) (Or.inl ⟨by rfl, ?_⟩) ?_ ?_
  rotate_left
  · intro w'
    go_simp
    with_reducible rfl
  rotate_left
  · simp only [Act.put, List.setIfInBounds_toArray, List.set_cons_zero, List.set_cons_succ, i64_w, i32_w]
    rfl
  refine pure_ (i := 8) (N := some 36) (v := ?_) (a' := ?_) #[true, true, true, true, true, true, true, true, true, false, false, false, false, false, false, false, false, false, false, false, false, false, false, false, false, false, false, false, false, false, false, false, false, false, false, false, false, false, false, false, false, false, false, false] rfl rfl (by kernel_rfl) (fun _ _ _ h => h) (Or.inl ⟨by rfl, ?_⟩) ?_ ?_
  rotate_left
  · intro w'
    go_simp
    with_reducible rfl
  rotate_left
  · simp only [Act.put, List.setIfInBounds_toArray, List.set_cons_zero, List.set_cons_succ, i64_w, i32_w]
    rfl
  refine pure_ (i := 9) (N := some 37) (v := ?_) (a' := ?_) #[true, true, true, true, true, true, true, true, true, true, false, false, false, false, false, false, false, false, false, false, false, false, false, false, false, false, false, false, false, false, false, false, false, false, false, false, false, false, false, false, false, false, false, false] rfl rfl (by kernel_rfl) (fun _ _ _ h => h) (Or.inl ⟨by rfl, ?_⟩) ?_ ?_
  rotate_left
  · intro w'
    go_simp
    with_reducible rfl
  rotate_left
  · simp only [Act.put, List.setIfInBounds_toArray, List.set_cons_zero, List.set_cons_succ, i64_w, i32_w]
    rfl
  refine take_ (i := 10) (N := some 38) (v := ?_) (a' := ?_) #[true, true, true, true, true, true, true, true, true, true, true, false, false, false, false, false, false, false, false, false, false, false, false, false, false, false, false, false, false, false, false, false, false, false, false, false, false, false, false, false, false, false, false, false] rfl rfl (by kernel_rfl) (fun _ _ _ h => h) (Or.inl ⟨by rfl, ?_⟩) hHeld ?_ ?_
  rotate_left
  · rintro w' ⟨s0, s1, s2, s3, s4, s5⟩
    go_simp
    with_reducible rfl
  rotate_left
  · simp only [Act.put, List.setIfInBounds_toArray, List.set_cons_zero, List.set_cons_succ, i64_w, i32_w]
    rfl
  refine one_ (i := 11) (N := some 39) #[true, true, true, true, true, true, true, true, true, true, true, true, false, false, false, false, false, false, false, false, false, false, false, false, false, false, false, false, false, false, false, false, false, false, false, false, false, false, false, false, false, false, false, false] rfl rfl (by kernel_rfl) (by decide) (fun K hK => ?_)
  refine goes_ Try.func12 (by kernel_rfl) rfl #[.agg #[.string sCal, .slice none 0 0, .slice Aq 1 1]] (by rfl) rfl rfl (by (try simp only [List.map_toArray, List.map_cons, List.map_nil]); first | done | rfl) ?_
  refine (itip_Organizer.calls 0 sCal none 0 [] Aq 1 cComps smU _ (Kd.C_nil _ _) (Nat.le_refl _) HES.out.C (Nat.le_refl _) porg).mono ?_
  rintro e x1 ⟨rfl, hb⟩
  refine ⟨_, rfl, ?_⟩
  replace HES := Aside0.mk (HES.out.below hb)
  clear hb
  refine hK.out _ _ (HES.out.held) (fun hHeld => ?_)
  clear hK K
  refine norm_ (a' := ?_) ?_ ?_
  rotate_left
  · show Act.put _ (some 39) _ = _
    simp only [Act.put, List.setIfInBounds_toArray, List.set_cons_zero, List.set_cons_succ, i64_w, i32_w]
    rfl
  refine pure_ (i := 12) (N := some 40) (v := .bool true) (a' := ?_) #[true, true, true, true, true, true, true, true, true, true, true, true, true, false, false, false, false, false, false, false, false, false, false, false, false, false, false, false, false, false, false, false, false, false, false, false, false, false, false, false, false, false, false, false] rfl rfl (by kernel_rfl) (fun _ _ _ h => h) (Or.inl ⟨by rfl, fun w' => by first | kernel_rfl | (go_simp; done) | (go_simp; with_reducible rfl)⟩) ?_ ?_
  rotate_left
  · simp only [Act.put, List.setIfInBounds_toArray, List.set_cons_zero, List.set_cons_succ, i64_w, i32_w]
    rfl
  refine pure_ (i := 13) (N := some 41) (v := ?_) (a' := ?_) #[true, true, true, true, true, true, true, true, true, true, true, true, true, true, false, false, false, false, false, false, false, false, false, false, false, false, false, false, false, false, false, false, false, false, false, false, false, false, false, false, false, false, false, false] rfl rfl (by kernel_rfl) (fun _ _ _ h => h) (Or.inl ⟨by rfl, ?_⟩) ?_ ?_
  rotate_left
  · intro w'
    go_simp
    with_reducible rfl
  rotate_left
  · simp only [Act.put, List.setIfInBounds_toArray, List.set_cons_zero, List.set_cons_succ, i64_w, i32_w]
    rfl
  refine pure_ (i := 14) (N := some 42) (v := ?_) (a' := ?_) #[true, true, true, true, true, true, true, true, true, true, true, true, true, true, true, false, false, false, false, false, false, false, false, false, false, false, false, false, false, false, false, false, false, false, false, false, false, false, false, false, false, false, false, false] rfl rfl (by kernel_rfl) (fun _ _ _ h => h) (Or.inl ⟨by rfl, ?_⟩) ?_ ?_
  rotate_left
  · intro w'
    go_simp
    with_reducible rfl
  rotate_left
  · simp only [Act.put, List.setIfInBounds_toArray, List.set_cons_zero, List.set_cons_succ, i64_w, i32_w]
    rfl
  refine take_ (i := 15) (N := some 43) (v := ?_) (a' := ?_) #[true, true, true, true, true, true, true, true, true, true, true, true, true, true, true, true, false, false, false, false, false, false, false, false, false, false, false, false, false, false, false, false, false, false, false, false, false, false, false, false, false, false, false, false] rfl rfl (by kernel_rfl) (fun _ _ _ h => h) (Or.inl ⟨by rfl, ?_⟩) hHeld ?_ ?_
  rotate_left
  · rintro w' ⟨s0, s1, s2, s3, s4, s5⟩
    go_simp
    with_reducible rfl
  rotate_left
  · simp only [Act.put, List.setIfInBounds_toArray, List.set_cons_zero, List.set_cons_succ, i64_w, i32_w]
    rfl
  refine join_ (σ := Value × Nat) 26 #[true, true, true, true, true, true, true, true, true, true, true, true, true, true, true, true, true, true, false, false, false, false, false, false, false, false, false, false, false, false, false, false, false, false, false, false, false, false, false, false, false, false, false, false] (fun s => [(44, s.1), (45, .slice (some ⟨s.2, 0, none⟩) 1 1)]) (fun s W => (∃ A k, s.1 = .slice A 1 k ∧ 1 ≤ k ∧ Kd.C Kd.string W A 1 [smV]) ∧ W.heap[s.2]? = some (.cells #[.string smV] 9 (0, 0)) ∧ Es w gc gd Aq A1 A2 c1 c2 W) (fun s W hF => ?hcont) (fun hJ => ?hords)
  case hords =>
    refine two_ (i := 16) (j := 17) (Ni := some 44) (Nj := some 45) #[true, true, true, true, true, true, true, true, true, true, true, true, true, true, true, true, true, false, false, false, false, false, false, false, false, false, false, false, false, false, false, false, false, false, false, false, false, false, false, false, false, false, false, false] #[true, true, true, true, true, true, true, true, true, true, true, true, true, true, true, true, false, true, false, false, false, false, false, false, false, false, false, false, false, false, false, false, false, false, false, false, false, false, false, false, false, false, false, false] rfl rfl rfl rfl (by kernel_rfl) (by decide) (by decide) (fun K hK => ?_) (fun K hK => ?_)
    · refine goes_ Try.func15 (by kernel_rfl) rfl #[.agg #[.string sCal, .slice none 0 0, .slice Aq 1 1]] (by rfl) rfl rfl (by (try simp only [List.map_toArray, List.map_cons, List.map_nil]); first | done | rfl) ?_
      refine (itip_Attendees.calls 0 sCal none 0 [] Aq 1 cComps [smV] _ (Kd.C_nil _ _) (Nat.le_refl _) HES.out.C (Nat.le_refl _) patt).mono ?_
      rintro e x2 ⟨v16, rfl, hr16, hb⟩
      refine ⟨_, rfl, ?_⟩
      obtain ⟨A16, c16, e16⟩ := Kd.R_slice hr16
      subst e16
      have HA16 := Aside0.mk (Kd.R_reads' hr16).2.2
      have hc16 := (Kd.R_reads' hr16).2.1
      clear hr16
      replace HES := Aside0.mk (HES.out.below hb)
      clear hb
      refine hK.out _ _ (HES.out.held) (fun hHeld => ?_)
      clear hK K
      refine norm_ (a' := ?_) ?_ ?_
      rotate_left
      · show Act.put _ (some 44) _ = _
        simp only [Act.put, List.setIfInBounds_toArray, List.set_cons_zero, List.set_cons_succ, i64_w, i32_w]
        rfl
      refine one_ (i := 17) (N := some 45) #[true, true, true, true, true, true, true, true, true, true, true, true, true, true, true, true, true, true, false, false, false, false, false, false, false, false, false, false, false, false, false, false, false, false, false, false, false, false, false, false, false, false, false, false] rfl rfl (by kernel_rfl) (by decide) (fun K hK => ?_)
      refine event_step (by rfl) (v := .slice (some ⟨x2.heap.size, 0, none⟩) 1 1) (w1 := x2.alloc (.cells #[.string smV] 9)) (by first | (go_simp; done) | (go_simp; rfl)) ?_
      obtain ⟨y1, hy1⟩ : ∃ X, x2.alloc (.cells #[.string smV] 9) = X := ⟨_, rfl⟩
      rw [hy1]
      have BX := Aside0.mk (show y1.heap[x2.heap.size]? = some (.cells #[.string smV] 9 (0, 0)) by rw [← hy1]; exact alloc_at rfl)
      have hbx : Below x2.heap.size x2 y1 := by rw [← hy1]; exact below_alloc (Below.refl _ _) _
      clear hy1
      replace HES := Aside0.mk (HES.out.below hbx)
      replace HA16 := Aside0.mk (Kd.C_below HA16.out hbx)
      clear hbx
      refine hK.out _ _ (HES.out.held) (fun hHeld => ?_)
      clear hK K
      refine norm_ (a' := ?_) ?_ ?_
      rotate_left
      · show Act.put _ (some 45) _ = _
        simp only [Act.put, List.setIfInBounds_toArray, List.set_cons_zero, List.set_cons_succ, i64_w, i32_w]
        rfl
      exact hJ (.slice A16 1 c16, x2.heap.size) _ ⟨⟨A16, c16, rfl, hc16, HA16.out⟩, BX.out, HES.out⟩
    · refine event_step (by rfl) (v := .slice (some ⟨x1.heap.size, 0, none⟩) 1 1) (w1 := x1.alloc (.cells #[.string smV] 9)) (by first | (go_simp; done) | (go_simp; rfl)) ?_
      obtain ⟨y2, hy2⟩ : ∃ X, x1.alloc (.cells #[.string smV] 9) = X := ⟨_, rfl⟩
      rw [hy2]
      have BX := Aside0.mk (show y2.heap[x1.heap.size]? = some (.cells #[.string smV] 9 (0, 0)) by rw [← hy2]; exact alloc_at rfl)
      have hbx : Below x1.heap.size x1 y2 := by rw [← hy2]; exact below_alloc (Below.refl _ _) _
      clear hy2
      replace HES := Aside0.mk (HES.out.below hbx)
      clear hbx
      refine hK.out _ _ (HES.out.held) (fun hHeld => ?_)
      clear hK K
      refine norm_ (a' := ?_) ?_ ?_
      rotate_left
      · show Act.put _ (some 45) _ = _
        simp only [Act.put, List.setIfInBounds_toArray, List.set_cons_zero, List.set_cons_succ, i64_w, i32_w]
        rfl
      refine one_ (i := 16) (N := some 44) #[true, true, true, true, true, true, true, true, true, true, true, true, true, true, true, true, true, true, false, false, false, false, false, false, false, false, false, false, false, false, false, false, false, false, false, false, false, false, false, false, false, false, false, false] rfl rfl (by kernel_rfl) (by decide) (fun K hK => ?_)
      refine goes_ Try.func15 (by kernel_rfl) rfl #[.agg #[.string sCal, .slice none 0 0, .slice Aq 1 1]] (by rfl) rfl rfl (by (try simp only [List.map_toArray, List.map_cons, List.map_nil]); first | done | rfl) ?_
      refine (itip_Attendees.calls 0 sCal none 0 [] Aq 1 cComps [smV] _ (Kd.C_nil _ _) (Nat.le_refl _) HES.out.C (Nat.le_refl _) patt).mono ?_
      rintro e x2 ⟨v16, rfl, hr16, hb⟩
      refine ⟨_, rfl, ?_⟩
      obtain ⟨A16, c16, e16⟩ := Kd.R_slice hr16
      subst e16
      have HA16 := Aside0.mk (Kd.R_reads' hr16).2.2
      have hc16 := (Kd.R_reads' hr16).2.1
      clear hr16
      replace HES := Aside0.mk (HES.out.below hb)
      replace BX := Aside0.mk (blk_below BX.out hb)
      clear hb
      refine hK.out _ _ (HES.out.held) (fun hHeld => ?_)
      clear hK K
      refine norm_ (a' := ?_) ?_ ?_
      rotate_left
      · show Act.put _ (some 44) _ = _
        simp only [Act.put, List.setIfInBounds_toArray, List.set_cons_zero, List.set_cons_succ, i64_w, i32_w]
        rfl
      exact hJ (.slice A16 1 c16, x1.heap.size) _ ⟨⟨A16, c16, rfl, hc16, HA16.out⟩, BX.out, HES.out⟩
  case hcont =>
    obtain ⟨v16, b17⟩ := s
    obtain ⟨⟨A16, c16, e16, hc16, ha16⟩, hb17, hes⟩ := hF
    obtain rfl : v16 = .slice A16 1 c16 := e16
    have HA16 := Aside0.mk ha16
    have HA17 := Aside0.mk (Kd.F_now (F_one hb17))
    replace HES := Aside0.mk hes
    have hHeld := hes.held
    clear ha16 hb17 hes
    refine norm_ (a' := ?_) ?_ ?_
    rotate_left
    · show putAll _ _ = _
      simp only [putAll, Act.put, List.setIfInBounds_toArray, List.set_cons_zero, List.set_cons_succ, i64_w, i32_w]
      rfl
    refine one_ (i := 18) (N := some 46) #[true, true, true, true, true, true, true, true, true, true, true, true, true, true, true, true, true, true, true, false, false, false, false, false, false, false, false, false, false, false, false, false, false, false, false, false, false, false, false, false, false, false, false, false] rfl rfl (by kernel_rfl) (by decide) (fun K hK => ?_)
    refine goes_ Try.func14 (by kernel_rfl) rfl #[.slice A16 1 c16, .slice (some ⟨b17, 0, none⟩) 1 1] (by rfl) rfl rfl (by (try simp only [List.map_toArray, List.map_cons, List.map_nil]); first | done | rfl) ?_
    refine (almanacref08_Texts.calls 5 A16 c16 [smV] (some ⟨b17, 0, none⟩) 1 [smV] true _ HA16.out hc16 HA17.out (Nat.le_refl _) ptx).mono ?_
    rintro e x8 ⟨rfl, hd⟩
    have hb := Drawn0.below hd
    clear hd
    refine ⟨_, rfl, ?_⟩
    replace HES := Aside0.mk (HES.out.below hb)
    clear hb
    refine hK.out _ _ (HES.out.held) (fun hHeld => ?_)
    clear hK K
    refine norm_ (a' := ?_) ?_ ?_
    rotate_left
    · show Act.put _ (some 46) _ = _
      simp only [Act.put, List.setIfInBounds_toArray, List.set_cons_zero, List.set_cons_succ, i64_w, i32_w]
      rfl
    refine pure_ (i := 19) (N := some 47) (v := ?_) (a' := ?_) #[true, true, true, true, true, true, true, true, true, true, true, true, true, true, true, true, true, true, true, true, false, false, false, false, false, false, false, false, false, false, false, false, false, false, false, false, false, false, false, false, false, false, false, false] rfl rfl (by kernel_rfl) (fun _ _ _ h => h) (Or.inl ⟨by rfl, ?_⟩) ?_ ?_
    rotate_left
    · intro w'
      go_simp
      with_reducible rfl
    rotate_left
    · simp only [Act.put, List.setIfInBounds_toArray, List.set_cons_zero, List.set_cons_succ, i64_w, i32_w]
      rfl
    refine pure_ (i := 20) (N := some 48) (v := ?_) (a' := ?_) #[true, true, true, true, true, true, true, true, true, true, true, true, true, true, true, true, true, true, true, true, true, false, false, false, false, false, false, false, false, false, false, false, false, false, false, false, false, false, false, false, false, false, false, false] rfl rfl (by kernel_rfl) (fun _ _ _ h => h) (Or.inl ⟨by rfl, ?_⟩) ?_ ?_
    rotate_left
    · intro w'
      go_simp
      with_reducible rfl
    rotate_left
    · simp only [Act.put, List.setIfInBounds_toArray, List.set_cons_zero, List.set_cons_succ, i64_w, i32_w]
      rfl
    refine take_ (i := 21) (N := some 49) (v := ?_) (a' := ?_) #[true, true, true, true, true, true, true, true, true, true, true, true, true, true, true, true, true, true, true, true, true, true, false, false, false, false, false, false, false, false, false, false, false, false, false, false, false, false, false, false, false, false, false, false] rfl rfl (by kernel_rfl) (fun _ _ _ h => h) (Or.inl ⟨by rfl, ?_⟩) hHeld ?_ ?_
    rotate_left
    · rintro w' ⟨s0, s1, s2, s3, s4, s5⟩
      go_simp
      with_reducible rfl
    rotate_left
    · simp only [Act.put, List.setIfInBounds_toArray, List.set_cons_zero, List.set_cons_succ, i64_w, i32_w]
      rfl
    refine one_ (i := 22) (N := some 50) #[true, true, true, true, true, true, true, true, true, true, true, true, true, true, true, true, true, true, true, true, true, true, true, false, false, false, false, false, false, false, false, false, false, false, false, false, false, false, false, false, false, false, false, false] rfl rfl (by kernel_rfl) (by decide) (fun K hK => ?_)
    refine goes_ Try.func20 (by kernel_rfl) rfl #[.agg #[.string sCal, .slice none 0 0, .slice Aq 1 1], .string smV] (by rfl) rfl rfl (by (try simp only [List.map_toArray, List.map_cons, List.map_nil]); first | done | rfl) ?_
    refine (itip_Status.calls 0 sCal none 0 [] Aq 1 cComps smV sNeeds _ (Kd.C_nil _ _) (Nat.le_refl _) HES.out.C (Nat.le_refl _) pst1).mono ?_
    rintro e x9 ⟨rfl, hb⟩
    refine ⟨_, rfl, ?_⟩
    replace HES := Aside0.mk (HES.out.below hb)
    clear hb
    refine hK.out _ _ (HES.out.held) (fun hHeld => ?_)
    clear hK K
    refine norm_ (a' := ?_) ?_ ?_
    rotate_left
    · show Act.put _ (some 50) _ = _
      simp only [Act.put, List.setIfInBounds_toArray, List.set_cons_zero, List.set_cons_succ, i64_w, i32_w]
      rfl
    refine pure_ (i := 23) (N := some 51) (v := .bool true) (a' := ?_) #[true, true, true, true, true, true, true, true, true, true, true, true, true, true, true, true, true, true, true, true, true, true, true, true, false, false, false, false, false, false, false, false, false, false, false, false, false, false, false, false, false, false, false, false] rfl rfl (by kernel_rfl) (fun _ _ _ h => h) (Or.inl ⟨by rfl, fun w' => by first | kernel_rfl | (go_simp; done) | (go_simp; with_reducible rfl)⟩) ?_ ?_
    rotate_left
    · simp only [Act.put, List.setIfInBounds_toArray, List.set_cons_zero, List.set_cons_succ, i64_w, i32_w]
      rfl
    refine pure_ (i := 24) (N := some 52) (v := ?_) (a' := ?_) #[true, true, true, true, true, true, true, true, true, true, true, true, true, true, true, true, true, true, true, true, true, true, true, true, true, false, false, false, false, false, false, false, false, false, false, false, false, false, false, false, false, false, false, false] rfl rfl (by kernel_rfl) (fun _ _ _ h => h) (Or.inl ⟨by rfl, ?_⟩) ?_ ?_
    rotate_left
    · intro w'
      go_simp
      with_reducible rfl
    rotate_left
    · simp only [Act.put, List.setIfInBounds_toArray, List.set_cons_zero, List.set_cons_succ, i64_w, i32_w]
      rfl
    refine pure_ (i := 25) (N := some 53) (v := ?_) (a' := ?_) #[true, true, true, true, true, true, true, true, true, true, true, true, true, true, true, true, true, true, true, true, true, true, true, true, true, true, false, false, false, false, false, false, false, false, false, false, false, false, false, false, false, false, false, false] rfl rfl (by kernel_rfl) (fun _ _ _ h => h) (Or.inl ⟨by rfl, ?_⟩) ?_ ?_
    rotate_left
    · intro w'
      go_simp
      with_reducible rfl
    rotate_left
    · simp only [Act.put, List.setIfInBounds_toArray, List.set_cons_zero, List.set_cons_succ, i64_w, i32_w]
      rfl
    refine take_ (i := 26) (N := some 54) (v := ?_) (a' := ?_) #[true, true, true, true, true, true, true, true, true, true, true, true, true, true, true, true, true, true, true, true, true, true, true, true, true, true, true, false, false, false, false, false, false, false, false, false, false, false, false, false, false, false, false, false] rfl rfl (by kernel_rfl) (fun _ _ _ h => h) (Or.inl ⟨by rfl, ?_⟩) hHeld ?_ ?_
    rotate_left
    · rintro w' ⟨s0, s1, s2, s3, s4, s5⟩
      go_simp
      with_reducible rfl
    rotate_left
    · simp only [Act.put, List.setIfInBounds_toArray, List.set_cons_zero, List.set_cons_succ, i64_w, i32_w]
      rfl
    refine one_ (i := 27) (N := some 55) #[true, true, true, true, true, true, true, true, true, true, true, true, true, true, true, true, true, true, true, true, true, true, true, true, true, true, true, true, false, false, false, false, false, false, false, false, false, false, false, false, false, false, false, false] rfl rfl (by kernel_rfl) (by decide) (fun K hK => ?_)
    refine goes_ Try.func20 (by kernel_rfl) rfl #[.agg #[.string sCal, .slice A1 0 c1, .slice A2 1 c2], .string smV] (by rfl) rfl rfl (by (try simp only [List.map_toArray, List.map_cons, List.map_nil]); first | done | rfl) ?_
    refine (itip_Status.calls 0 sCal A1 c1 [] A2 c2 dComps smV sAcc _ HES.out.N (Nat.zero_le _) HES.out.D hc2 pst2).mono ?_
    rintro e x10 ⟨rfl, hb⟩
    refine ⟨_, rfl, ?_⟩
    replace HES := Aside0.mk (HES.out.below hb)
    clear hb
    refine hK.out _ _ (HES.out.held) (fun hHeld => ?_)
    clear hK K
    refine norm_ (a' := ?_) ?_ ?_
    rotate_left
    · show Act.put _ (some 55) _ = _
      simp only [Act.put, List.setIfInBounds_toArray, List.set_cons_zero, List.set_cons_succ, i64_w, i32_w]
      rfl
    refine pure_ (i := 28) (N := some 56) (v := .bool true) (a' := ?_) #[true, true, true, true, true, true, true, true, true, true, true, true, true, true, true, true, true, true, true, true, true, true, true, true, true, true, true, true, true, false, false, false, false, false, false, false, false, false, false, false, false, false, false, false] rfl rfl (by kernel_rfl) (fun _ _ _ h => h) (Or.inl ⟨by rfl, fun w' => by first | kernel_rfl | (go_simp; done) | (go_simp; with_reducible rfl)⟩) ?_ ?_
    rotate_left
    · simp only [Act.put, List.setIfInBounds_toArray, List.set_cons_zero, List.set_cons_succ, i64_w, i32_w]
      rfl
    refine pure_ (i := 29) (N := some 57) (v := ?_) (a' := ?_) #[true, true, true, true, true, true, true, true, true, true, true, true, true, true, true, true, true, true, true, true, true, true, true, true, true, true, true, true, true, true, false, false, false, false, false, false, false, false, false, false, false, false, false, false] rfl rfl (by kernel_rfl) (fun _ _ _ h => h) (Or.inl ⟨by rfl, ?_⟩) ?_ ?_
    rotate_left
    · intro w'
      go_simp
      with_reducible rfl
    rotate_left
    · simp only [Act.put, List.setIfInBounds_toArray, List.set_cons_zero, List.set_cons_succ, i64_w, i32_w]
      rfl
    refine pure_ (i := 30) (N := some 58) (v := ?_) (a' := ?_) #[true, true, true, true, true, true, true, true, true, true, true, true, true, true, true, true, true, true, true, true, true, true, true, true, true, true, true, true, true, true, true, false, false, false, false, false, false, false, false, false, false, false, false, false] rfl rfl (by kernel_rfl) (fun _ _ _ h => h) (Or.inl ⟨by rfl, ?_⟩) ?_ ?_
    rotate_left
    · intro w'
      go_simp
      with_reducible rfl
    rotate_left
    · simp only [Act.put, List.setIfInBounds_toArray, List.set_cons_zero, List.set_cons_succ, i64_w, i32_w]
      rfl
    refine pure_ (i := 32) (N := some 60) (v := ?_) (a' := ?_) #[true, true, true, true, true, true, true, true, true, true, true, true, true, true, true, true, true, true, true, true, true, true, true, true, true, true, true, true, true, true, true, false, true, false, false, false, false, false, false, false, false, false, false, false] rfl rfl (by kernel_rfl) (fun _ _ _ h => h) (Or.inl ⟨by rfl, ?_⟩) ?_ ?_
    rotate_left
    · intro w'
      go_simp
      with_reducible rfl
    rotate_left
    · simp only [Act.put, List.setIfInBounds_toArray, List.set_cons_zero, List.set_cons_succ, i64_w, i32_w]
      rfl
    refine take_ (i := 31) (N := some 59) (v := ?_) (a' := ?_) #[true, true, true, true, true, true, true, true, true, true, true, true, true, true, true, true, true, true, true, true, true, true, true, true, true, true, true, true, true, true, true, true, true, false, false, false, false, false, false, false, false, false, false, false] rfl rfl (by kernel_rfl) (fun _ _ _ h => h) (Or.inl ⟨by rfl, ?_⟩) hHeld ?_ ?_
    rotate_left
    · rintro w' ⟨s0, s1, s2, s3, s4, s5⟩
      go_simp
      with_reducible rfl
    rotate_left
    · simp only [Act.put, List.setIfInBounds_toArray, List.set_cons_zero, List.set_cons_succ, i64_w, i32_w]
      rfl
    refine one_ (i := 33) (N := some 61) #[true, true, true, true, true, true, true, true, true, true, true, true, true, true, true, true, true, true, true, true, true, true, true, true, true, true, true, true, true, true, true, true, true, true, false, false, false, false, false, false, false, false, false, false] rfl rfl (by kernel_rfl) (by decide) (fun K hK => ?_)
    refine goes_ Try.func23 (by kernel_rfl) rfl #[.agg #[.string sNo, .slice none 0 0, .slice none 0 0], .string sNo] (by rfl) rfl rfl (by (try simp only [List.map_toArray, List.map_cons, List.map_nil]); first | done | rfl) ?_
    refine (itip_Message.calls 0 sNo (fun _ => False) none 0 [] (fun _ => False) none 0 [] sNo sNo [] [] _ (Kd.V_nil _ _ _ _ _) (Kd.V_nil _ _ _ _ _) pms1).mono ?_
    rintro e x11 ⟨v1, v2, rfl, hn, hv, hb⟩
    obtain ⟨B1, b1, rfl⟩ := Kd.N_slice hn
    obtain ⟨B2, b2, rfl⟩ := Kd.V_slice hv
    have HM1 := Aside0.mk (Kd.N_reads' hn).2.2
    have HM2 := Aside0.mk (Kd.V_reads' hv).2.2
    clear hn hv
    refine ⟨_, rfl, ?_⟩
    replace HES := Aside0.mk (HES.out.below hb)
    clear hb
    refine hK.out _ _ (HES.out.held) (fun hHeld => ?_)
    clear hK K
    refine norm_ (a' := ?_) ?_ ?_
    rotate_left
    · show Act.put _ (some 61) _ = _
      simp only [Act.put, List.setIfInBounds_toArray, List.set_cons_zero, List.set_cons_succ, i64_w, i32_w]
      rfl
    refine one_ (i := 34) (N := some 62) #[true, true, true, true, true, true, true, true, true, true, true, true, true, true, true, true, true, true, true, true, true, true, true, true, true, true, true, true, true, true, true, true, true, true, true, false, false, false, false, false, false, false, false, false] rfl rfl (by kernel_rfl) (by decide) (fun K hK => ?_)
    refine goes_ Try.func17 (by kernel_rfl) rfl #[.agg #[.string sCal, .slice none 0 0, .slice Aq 1 1], .agg #[.string sNo, .slice B1 0 b1, .slice B2 0 b2]] (by rfl) rfl rfl (by (try simp only [List.map_toArray, List.map_cons, List.map_nil]); first | done | rfl) ?_
    refine (itip_Significant.calls sCal none 0 [] Aq 1 cComps sNo B1 b1 [] B2 b2 [] true _ (Kd.C_nil _ _) (Nat.le_refl _) HES.out.C (Nat.le_refl _) HM1.out (Nat.zero_le _) HM2.out (Nat.zero_le _) psig).mono ?_
    rintro e x12 ⟨rfl, hb⟩
    refine ⟨_, rfl, ?_⟩
    replace HES := Aside0.mk (HES.out.below hb)
    clear hb
    refine hK.out _ _ (HES.out.held) (fun hHeld => ?_)
    clear hK K
    refine norm_ (a' := ?_) ?_ ?_
    rotate_left
    · show Act.put _ (some 62) _ = _
      simp only [Act.put, List.setIfInBounds_toArray, List.set_cons_zero, List.set_cons_succ, i64_w, i32_w]
      rfl
    refine pure_ (i := 35) (N := some 63) (v := ?_) (a' := ?_) #[true, true, true, true, true, true, true, true, true, true, true, true, true, true, true, true, true, true, true, true, true, true, true, true, true, true, true, true, true, true, true, true, true, true, true, true, false, false, false, false, false, false, false, false] rfl rfl (by kernel_rfl) (fun _ _ _ h => h) (Or.inl ⟨by rfl, ?_⟩) ?_ ?_
    rotate_left
    · intro w'
      go_simp
      with_reducible rfl
    rotate_left
    · simp only [Act.put, List.setIfInBounds_toArray, List.set_cons_zero, List.set_cons_succ, i64_w, i32_w]
      rfl
    refine pure_ (i := 36) (N := some 64) (v := ?_) (a' := ?_) #[true, true, true, true, true, true, true, true, true, true, true, true, true, true, true, true, true, true, true, true, true, true, true, true, true, true, true, true, true, true, true, true, true, true, true, true, true, false, false, false, false, false, false, false] rfl rfl (by kernel_rfl) (fun _ _ _ h => h) (Or.inl ⟨by rfl, ?_⟩) ?_ ?_
    rotate_left
    · intro w'
      go_simp
      with_reducible rfl
    rotate_left
    · simp only [Act.put, List.setIfInBounds_toArray, List.set_cons_zero, List.set_cons_succ, i64_w, i32_w]
      rfl
    refine take_ (i := 37) (N := some 65) (v := ?_) (a' := ?_) #[true, true, true, true, true, true, true, true, true, true, true, true, true, true, true, true, true, true, true, true, true, true, true, true, true, true, true, true, true, true, true, true, true, true, true, true, true, true, false, false, false, false, false, false] rfl rfl (by kernel_rfl) (fun _ _ _ h => h) (Or.inl ⟨by rfl, ?_⟩) hHeld ?_ ?_
    rotate_left
    · rintro w' ⟨s0, s1, s2, s3, s4, s5⟩
      go_simp
      with_reducible rfl
    rotate_left
    · simp only [Act.put, List.setIfInBounds_toArray, List.set_cons_zero, List.set_cons_succ, i64_w, i32_w]
      rfl
    refine one_ (i := 38) (N := some 66) #[true, true, true, true, true, true, true, true, true, true, true, true, true, true, true, true, true, true, true, true, true, true, true, true, true, true, true, true, true, true, true, true, true, true, true, true, true, true, true, false, false, false, false, false] rfl rfl (by kernel_rfl) (by decide) (fun K hK => ?_)
    refine goes_ Try.func23 (by kernel_rfl) rfl #[.agg #[.string sCal, .slice none 0 0, .slice Aq 1 1], .string sReq] (by rfl) rfl rfl (by (try simp only [List.map_toArray, List.map_cons, List.map_nil]); first | done | rfl) ?_
    refine (itip_Message.calls 0 sCal (fun _ => False) none 0 [] (fun k => k < (World.heap _).size) Aq 1 cComps sReq sCal [⟨⟨#[77, 69, 84, 72, 79, 68]⟩, [], sReq⟩] cComps _ (Kd.V_nil _ _ _ _ _) (Kd.V_mk (Nat.le_refl _) (Kd.C_F k25_heap HES.out.C)) pms2).mono ?_
    rintro e x13 ⟨v1, v2, rfl, hn, hv, hb⟩
    obtain ⟨D1, e1, rfl⟩ := Kd.N_slice hn
    clear hn hv
    refine ⟨_, rfl, ?_⟩
    replace HES := Aside0.mk (HES.out.below hb)
    clear hb
    refine hK.out _ _ (HES.out.held) (fun hHeld => ?_)
    clear hK K
    refine norm_ (a' := ?_) ?_ ?_
    rotate_left
    · show Act.put _ (some 66) _ = _
      simp only [Act.put, List.setIfInBounds_toArray, List.set_cons_zero, List.set_cons_succ, i64_w, i32_w]
      rfl
    refine pure_ (i := 39) (N := some 67) (v := ?_) (a' := ?_) #[true, true, true, true, true, true, true, true, true, true, true, true, true, true, true, true, true, true, true, true, true, true, true, true, true, true, true, true, true, true, true, true, true, true, true, true, true, true, true, true, false, false, false, false] rfl rfl (by kernel_rfl) (fun _ _ _ h => h) (Or.inl ⟨by rfl, ?_⟩) ?_ ?_
    rotate_left
    · intro w'
      go_simp
      with_reducible rfl
    rotate_left
    · simp only [Act.put, List.setIfInBounds_toArray, List.set_cons_zero, List.set_cons_succ, i64_w, i32_w]
      rfl
    refine pure_ (i := 40) (N := some 68) (v := ?_) (a' := ?_) #[true, true, true, true, true, true, true, true, true, true, true, true, true, true, true, true, true, true, true, true, true, true, true, true, true, true, true, true, true, true, true, true, true, true, true, true, true, true, true, true, true, false, false, false] rfl rfl (by kernel_rfl) (fun _ _ _ h => h) (Or.inl ⟨by rfl, ?_⟩) ?_ ?_
    rotate_left
    · intro w'
      go_simp
      with_reducible rfl
    rotate_left
    · simp only [Act.put, List.setIfInBounds_toArray, List.set_cons_zero, List.set_cons_succ, i64_w, i32_w]
      rfl
    refine pure_ (i := 41) (N := some 69) (v := .bool true) (a' := ?_) #[true, true, true, true, true, true, true, true, true, true, true, true, true, true, true, true, true, true, true, true, true, true, true, true, true, true, true, true, true, true, true, true, true, true, true, true, true, true, true, true, true, true, false, false] rfl rfl (by kernel_rfl) (fun _ _ _ h => h) (Or.inl ⟨by rfl, fun w' => by first | kernel_rfl | (go_simp; done) | (go_simp; with_reducible rfl)⟩) ?_ ?_
    rotate_left
    · simp only [Act.put, List.setIfInBounds_toArray, List.set_cons_zero, List.set_cons_succ, i64_w, i32_w]
      rfl
    refine pure_ (i := 42) (N := some 70) (v := ?_) (a' := ?_) #[true, true, true, true, true, true, true, true, true, true, true, true, true, true, true, true, true, true, true, true, true, true, true, true, true, true, true, true, true, true, true, true, true, true, true, true, true, true, true, true, true, true, true, false] rfl rfl (by kernel_rfl) (fun _ _ _ h => h) (Or.inl ⟨by rfl, ?_⟩) ?_ ?_
    rotate_left
    · intro w'
      go_simp
      with_reducible rfl
    rotate_left
    · simp only [Act.put, List.setIfInBounds_toArray, List.set_cons_zero, List.set_cons_succ, i64_w, i32_w]
      rfl
    refine pure_ (i := 43) (N := some 0) (v := ?_) (a' := ?_) #[true, true, true, true, true, true, true, true, true, true, true, true, true, true, true, true, true, true, true, true, true, true, true, true, true, true, true, true, true, true, true, true, true, true, true, true, true, true, true, true, true, true, true, true] rfl rfl (by kernel_rfl) (fun _ _ _ h => h) (Or.inl ⟨by rfl, ?_⟩) ?_ ?_
    rotate_left
    · intro w'
      go_simp
      with_reducible rfl
    rotate_left
    · simp only [Act.put, List.setIfInBounds_toArray, List.set_cons_zero, List.set_cons_succ, i64_w, i32_w]
      rfl
    refine done_ (by kernel_rfl) ?_
    go_wp2
    go_ret
    exact ⟨rfl, HES.out.B⟩
end Go.Proofs.Ytebmbfobmakheaa.PD
namespace Go.Proofs.Ytebmbfobmakheaa.PD
open Go.RowKit Go.Proofs.YtebmbfobmakheaaW.PrintWords Go.Proofs.YtebmbfobmakheaaW.PrintLast Go.Proofs.YtebmbfobmakheaaW.PrintMore
set_option linter.unusedVariables false
set_option linter.unusedSimpArgs false
structure Few (l1 : List S45) (l2 : List S25) : Prop where
  p : PB 5000 l1
  c : CB 5000 l2
  s1 : ∀ q ∈ l1, SzP q
  s2 : ∀ y ∈ l2, Sz y
theorem Few.limL {l1 : List S45} {l2 : List S25} (h : Few l1 l2) : LimL l2 := ⟨by have := h.c.1; omega, fun x hx => by have := (h.c.2.1 x hx).1; omega⟩
theorem SL_oth : ∀ l : List S25, SL (oth l) ≤ SL l
  | [] => Nat.le_refl _
  | x :: r => by
    cases h : isTz x.f0 with
    | true => rw [oth_tz h]; exact Nat.le_trans (SL_oth r) (Nat.le_add_left _ _)
    | false => rw [oth_no h]; exact Nat.add_le_add_left (SL_oth r) _
theorem attL_len : ∀ l : List S25, (attL l).length ≤ SL l
  | [] => Nat.le_refl _
  | x :: r => by
    show (byN x.f1 attN ++ attL r).length ≤ x.f1.length + SL r
    rw [List.length_append]
    exact Nat.add_le_add (List.length_filter_le _ _) (attL_len r)
theorem attP_len (l : List S25) : (attP l).length ≤ SL l := by rw [attP_oth]; exact Nat.le_trans (attL_len _) (SL_oth l)
theorem attP_mem {l : List S25} {p : S45} (h : p ∈ attP l) : ∃ x ∈ l, p ∈ x.f1 := by
  rw [attP_oth] at h
  obtain ⟨x, hx, hp⟩ := List.mem_flatMap.1 h
  exact ⟨x, oth_mem_l hx, (List.mem_filter.1 hp).1⟩
theorem Few.szP {l1 : List S45} {l2 : List S25} (h : Few l1 l2) {x : S25} (hx : x ∈ l2) {p : S45} (hp : p ∈ x.f1) : SzP p := (h.s2 x hx).f1p p hp
theorem short_of {s : ByteArray} (h : s.size ≤ 140737488351232) : shortB s = true := decide_eq_true (by omega)
theorem Few.att {l1 : List S45} {l2 : List S25} (h : Few l1 l2) : (attP l2).length ≤ 1000000 ∧ ∀ p ∈ attP l2, shortB p.f2 = true := by
  refine ⟨by have := attP_len l2; have := h.c.2.2; omega, fun p hp => ?_⟩
  obtain ⟨x, hx, hpx⟩ := attP_mem hp
  exact short_of (h.szP hx hpx).1
theorem Few.okT {l1 : List S45} {l2 : List S25} (h : Few l1 l2) : okT l2 = true := by
  unfold PD.okT
  simp only [Bool.and_eq_true, decide_eq_true_eq, List.all_eq_true]
  refine ⟨fun x hx => ?_, h.limL.1⟩
  have h1 := (h.c.2.1 x hx).1
  exact ⟨by omega, by have := toldP_len x.f1; omega⟩
theorem Few.limB {l1 : List S45} {l2 : List S25} (h : Few l1 l2) : limB l2 = true := (limB_iff l2).2 fun x hx => by have := (h.c.2.1 x hx).1; omega
theorem Few.okF {l1 : List S45} {l2 : List S25} (h : Few l1 l2) : okF l2 = true := List.all_eq_true.2 h.att.2
theorem texts_same (s : ByteArray) : (s.toList == s.toList) = true := beq_iff_eq.2 rfl
end Go.Proofs.Ytebmbfobmakheaa.PD
namespace Go.Proofs.Ytebmbfobmakheaa.PD
open Go.RowKit Go.Proofs.YtebmbfobmakheaaW.PrintWords Go.Proofs.YtebmbfobmakheaaW.PrintLast Go.Proofs.YtebmbfobmakheaaW.PrintMore
attribute [local go_sem] isSome_setCell max2_int min2_int max_two min_two
set_option linter.unusedVariables false
set_option linter.unusedSimpArgs false
set_option maxRecDepth 100000 in
set_option maxHeartbeats 4000000 in
theorem almanacref08_Upper_walk (s : ByteArray) (w : World) (hs : s.size ≤ 140737488355328) :
    Calls Try.prog 21 #[.string s] w fun e w' => e = .returned (.string (mapB uppN s)) ∧ Below w.heap.size w w' := by
  have hcv := fun W => Lib.run_convert_string_bytes (P := Try.prog) W 9 70 5 s Try.underlying9 Try.underlying70 Try.underlying5
  have hB1 : Below w.heap.size w (Lib.bytesWorld w 5 s) := ⟨rfl, rfl, rfl, by rw [Lib.bytesWorld_size]; exact Nat.le_succ _, fun k hk => Lib.bytesWorld_at_old w 5 s k hk⟩
  have HB := Aside0.mk hB1
  clear hB1
  have HN := Aside0.mk (RowOf.new w s)
  go_enter Try.func21, Try.ntmps21
  go_wp2
  go_loopw [4] (fun v wr => ∃ k : Nat, v = .int .i64 k ∧ k ≤ s.size ∧ Aside0 (RowOf wr w.heap.size (stepK uppN s k)) ∧ Aside0 (Below w.heap.size w wr)) (fun v _ => s.size - (intOf v).toNat)
  case atStart => exact ⟨0, rfl, Nat.zero_le _, HN, HB⟩
  case round =>
    obtain ⟨k, rfl, hk, hrow, hb⟩ := hrel
    by_cases hlt : k < s.size
    · have hlt0 : decide ((k : Int) < (s.size : Int)) = true := decide_eq_true (by omega)
      have hsz := stepK_size uppN s k
      have hbk : byteN (stepK uppN s k) k = byteN s k := by rw [stepK_byte uppN uppN_lt s k hk, if_neg (by omega)]
      obtain ⟨hc, hf⟩ := hrow.out k (by omega)
      rw [hbk] at hc
      have q1 : (k : Int) < (s.size : Int) := by omega
      have q2 : (0 : Int) ≤ (k : Int) := by omega
      have hb256 := byteN_lt s k
      have hmeas : s.size - ((k : Int) + 1).toNat < s.size - (k : Int).toNat := by omega
      have hstep : stepK uppN s (k + 1) = setByte (stepK uppN s k) k (uppN (byteN s k)) := rfl
      have HS := Aside0.mk hstep
      clear hstep
      by_cases h1 : 97 ≤ byteN s k
      · by_cases h2 : byteN s k ≤ 122
        · have d1 : decide ((byteN s k : Int) ≥ 97) = true := decide_eq_true (by omega)
          have d2 : decide ((byteN s k : Int) ≤ 122) = true := decide_eq_true (by omega)
          have hfv : uppN (byteN s k) = byteN s k - 32 := by unfold uppN; rw [if_pos ⟨h1, h2⟩]
          have hr1 := hrow.out.set k (byteN s k - 32) (by omega) (by omega)
          rw [← hfv, ← HS.out] at hr1
          have hb1 := hb.out.setCell (p := ⟨w.heap.size, k, none⟩) (by show w.heap.size ≤ w.heap.size; exact Nat.le_refl _) (.int .u8 ((byteN s k : Int) - 32))
          rw [hfv, show ((byteN s k - 32 : Nat) : Int) = (byteN s k : Int) - 32 by omega] at hr1
          have HR1 := Aside0.mk hr1
          have HB1 := Aside0.mk hb1
          clear hr1 hb1
          go_wp2
          try go_roundw
          all_goals first | exact ⟨⟨k + 1, by simp, hlt, HR1, HB1⟩, hmeas⟩ | exact ⟨k + 1, by simp, hlt, HR1, HB1⟩ | exact hmeas
        · have d1 : decide ((byteN s k : Int) ≥ 97) = true := decide_eq_true (by omega)
          have d2 : decide ((byteN s k : Int) ≤ 122) = false := decide_eq_false (by omega)
          have hfv : stepK uppN s (k + 1) = stepK uppN s k := by rw [HS.out, show uppN (byteN s k) = byteN (stepK uppN s k) k by rw [hbk]; unfold uppN; rw [if_neg (by omega)], setByte_same _ _ (by omega)]
          go_wp2
          try go_roundw
          all_goals first | exact ⟨⟨k + 1, by simp, hlt, ⟨by rw [hfv]; exact hrow.out⟩, hb⟩, hmeas⟩ | exact ⟨k + 1, by simp, hlt, ⟨by rw [hfv]; exact hrow.out⟩, hb⟩ | exact hmeas
      · have d1 : decide ((byteN s k : Int) ≥ 97) = false := decide_eq_false (by omega)
        have hfv : stepK uppN s (k + 1) = stepK uppN s k := by rw [HS.out, show uppN (byteN s k) = byteN (stepK uppN s k) k by rw [hbk]; unfold uppN; rw [if_neg (by omega)], setByte_same _ _ (by omega)]
        go_wp2
        try go_roundw
        all_goals first | exact ⟨⟨k + 1, by simp, hlt, ⟨by rw [hfv]; exact hrow.out⟩, hb⟩, hmeas⟩ | exact ⟨k + 1, by simp, hlt, ⟨by rw [hfv]; exact hrow.out⟩, hb⟩ | exact hmeas
    · have hlt0 : decide ((k : Int) < (s.size : Int)) = false := decide_eq_false (by omega)
      have hkl : k = s.size := by omega
      have hst := hrow.out.string (grownCap w s.size 0 5)
      rw [stepK_size, hkl] at hst
      go_wp2
      go_ret
      exact ⟨rfl, hb.out⟩
def almanacref08_Upper.f (a0 : ByteArray) : Option (ByteArray) := if shortB a0 = true then some (mapB uppN a0) else none
theorem almanacref08_Upper.calls (a0 : ByteArray) (r : ByteArray) (w : World) (h : almanacref08_Upper.f a0 = some r) :
    Calls Try.prog 21 #[.string a0] w fun e w' => e = .returned (.string r) ∧ Below w.heap.size w w' := by
  unfold almanacref08_Upper.f at h
  split at h
  case isFalse => cases h
  rename_i hc
  obtain rfl := Option.some.inj h
  exact almanacref08_Upper_walk a0 w (of_decide_eq_true hc)
end Go.Proofs.Ytebmbfobmakheaa.PD
namespace Go.Proofs.Ytebmbfobmakheaa.PD
open Go.RowKit Go.Proofs.YtebmbfobmakheaaW.PrintWords Go.Proofs.YtebmbfobmakheaaW.PrintLast Go.Proofs.YtebmbfobmakheaaW.PrintMore
attribute [local go_sem] isSome_setCell max2_int min2_int max_two min_two max_three min_three max_four min_four
set_option linter.unusedVariables false
set_option linter.unusedSimpArgs false
mutual
def almanacref12_Same.j0 : Nat → Bool → ByteArray → List (S45) → List (S25) → ByteArray → List (S45) → List (S25) → Option (Bool)
  | 0, _, _, _, _, _, _, _ => none
  | k + 1, x27, x385000, x385001, x385002, x386000, x386001, x386002 => if x27 = true then (some false) else (almanacref12_Same.l0 k 0 x385000 x385001 x385002 x386000 x386001 x386002)
def almanacref12_Same.l0 : Nat → Int → ByteArray → List (S45) → List (S25) → ByteArray → List (S45) → List (S25) → Option (Bool)
  | 0, _, _, _, _, _, _, _ => none
  | k + 1, x5, x385000, x385001, x385002, x386000, x386001, x386002 => if x5 < (x385002.length : Int) then (if 0 ≤ x5 then (if x5 < (x386002.length : Int) then ((almanacref12_Same.f k ((rd_T25 x385002 x5).f0) ((rd_T25 x385002 x5).f1) ((rd_T25 x385002 x5).f2) ((rd_T25 x386002 x5).f0) ((rd_T25 x386002 x5).f1) ((rd_T25 x386002 x5).f2)).bind fun t389 => (if t389 = true then (almanacref12_Same.l0 k (wrap64 (x5 + 1)) x385000 x385001 x385002 x386000 x386001 x386002) else (some false))) else (none)) else (none)) else (some true)
def almanacref12_Same.f : Nat → ByteArray → List (S45) → List (S25) → ByteArray → List (S45) → List (S25) → Option (Bool)
  | 0, _, _, _, _, _, _ => none
  | k + 1, a0_0, l0_1, l0_2, a1_0, l1_1, l1_2 => if a0_0.toList = a1_0.toList then ((almanacref12_Rows.f k l0_1 l1_1).bind fun t386 => (if t386 = true then (almanacref12_Same.j0 k ((l0_2.length : Int) != (l1_2.length : Int)) a0_0 l0_1 l0_2 a1_0 l1_1 l1_2) else (almanacref12_Same.j0 k true a0_0 l0_1 l0_2 a1_0 l1_1 l1_2))) else (almanacref12_Same.j0 k true a0_0 l0_1 l0_2 a1_0 l1_1 l1_2)
end
end Go.Proofs.Ytebmbfobmakheaa.PD
namespace Go.Proofs.Ytebmbfobmakheaa.PD
open Go.RowKit Go.Proofs.YtebmbfobmakheaaW.PrintWords Go.Proofs.YtebmbfobmakheaaW.PrintLast Go.Proofs.YtebmbfobmakheaaW.PrintMore
attribute [local go_sem] isSome_setCell max2_int min2_int max_two min_two
set_option linter.unusedVariables false
set_option linter.unusedSimpArgs false
theorem onlyF_len (addr : ByteArray) (l : List S45) : (onlyF addr l).length ≤ l.length := List.length_filter_le _ _
end Go.Proofs.Ytebmbfobmakheaa.PD
namespace Go.Proofs.Ytebmbfobmakheaa.PD
open Go.RowKit Go.Proofs.YtebmbfobmakheaaW.PrintWords Go.Proofs.YtebmbfobmakheaaW.PrintLast Go.Proofs.YtebmbfobmakheaaW.PrintMore
attribute [local go_sem] isSome_setCell max2_int min2_int max_two min_two
set_option linter.unusedVariables false
set_option linter.unusedSimpArgs false
def set1 (addr name value : ByteArray) (x : S45) : S45 := if hitB addr x = true then { x with f1 := paramF name value x.f1 } else x
theorem setF_len (addr name value : ByteArray) (l : List S45) : (setF addr name value l).length = l.length := by unfold setF; rw [List.length_map]
end Go.Proofs.Ytebmbfobmakheaa.PD
namespace Go.Proofs.Ytebmbfobmakheaa.PD
open Go.RowKit Go.Proofs.YtebmbfobmakheaaW.PrintWords Go.Proofs.YtebmbfobmakheaaW.PrintLast Go.Proofs.YtebmbfobmakheaaW.PrintMore
set_option linter.unusedVariables false
set_option linter.unusedSimpArgs false
inductive Ln : S25 → Prop
  | mk (x : S25) : x.f1.length ≤ 4611686018427387904 → (∀ p ∈ x.f1, LimP p) → x.f2.length ≤ 4611686018427387904 → (∀ y ∈ x.f2, Ln y) → Ln x
theorem eqL_refl {α : Type} (p : α → α → Bool) (l : List α) (h : ∀ x, p x x = true) : eqL p l l = true := eqL_true p l l rfl (fun j hj => h l[j])
theorem sameV_refl (x : S77) : sameV x x = true := by unfold sameV sameB; rw [texts_same, Bool.true_and]; exact eqL_refl _ _ (fun s => texts_same s)
theorem sameP_refl (x : S45) : sameP x x = true := by unfold sameP sameB; rw [texts_same, texts_same, Bool.true_and, Bool.true_and]; exact eqL_refl _ _ sameV_refl
theorem same_loop (a : ByteArray) (l1 : List S45) (l2 : List S25) (hl2 : l2.length ≤ 4611686018427387904) (ih : ∀ y ∈ l2, Ev (fun k => almanacref12_Same.f k y.f0 y.f1 y.f2 y.f0 y.f1 y.f2) true) : ∀ (d i : Nat), l2.length - i = d → i ≤ l2.length → Ev (fun k => almanacref12_Same.l0 k i a l1 l2 a l1 l2) true := by
  intro d
  induction d with
  | zero =>
    intro i hd hi
    refine ⟨1, fun k hk => ?_⟩
    obtain ⟨k, rfl⟩ : ∃ m, k = m + 1 := ⟨k - 1, by omega⟩
    simp only [almanacref12_Same.l0]
    rw [if_neg (by omega)]
  | succ d ihd =>
    intro i hd hi
    have hlt : i < l2.length := by omega
    refine Ev.step (f := fun k => (almanacref12_Same.f k l2[i].f0 l2[i].f1 l2[i].f2 l2[i].f0 l2[i].f1 l2[i].f2).bind fun t389 => (if t389 = true then (almanacref12_Same.l0 k ((i + 1 : Nat) : Int) a l1 l2 a l1 l2) else (some false))) (fun k => ?_) ?_
    · simp only [almanacref12_Same.l0]
      rw [if_pos (by omega), if_pos (by omega), if_pos (by omega), wrap_next hlt (by omega), rd25_at l2 i hlt]
    · refine Ev.bind (ih _ (List.getElem_mem hlt)) ?_
      exact Ev.congr (fun k => if_pos rfl) (ihd (i + 1) (by omega) (by omega))
theorem same_of (a : ByteArray) (l1 : List S45) (l2 : List S25) (hl1 : l1.length ≤ 4611686018427387904) (hp1 : ∀ p ∈ l1, LimP p) (hl2 : l2.length ≤ 4611686018427387904) (ih : ∀ y ∈ l2, Ev (fun k => almanacref12_Same.f k y.f0 y.f1 y.f2 y.f0 y.f1 y.f2) true) : Ev (fun k => almanacref12_Same.f k a l1 l2 a l1 l2) true := by
  refine Ev.step (f := fun k => (almanacref12_Rows.f k l1 l1).bind fun t386 => (if t386 = true then (almanacref12_Same.j0 k false a l1 l2 a l1 l2) else (almanacref12_Same.j0 k true a l1 l2 a l1 l2))) (fun k => ?_) ?_
  · simp only [almanacref12_Same.f]
    rw [if_pos trivial, show ((l2.length : Int) != (l2.length : Int)) = false by simp]
  · refine Ev.bind (rrows l1 l1 (by omega) hp1) ?_
    rw [eqL_refl sameP l1 sameP_refl]
    refine Ev.congr (fun k => if_pos rfl) (Ev.step (f := fun k => almanacref12_Same.l0 k 0 a l1 l2 a l1 l2) (fun k => ?_) (same_loop a l1 l2 hl2 ih _ 0 rfl (Nat.zero_le _)))
    simp only [almanacref12_Same.j0]
    rw [if_neg (by simp)]
theorem Ln.same {x : S25} (h : Ln x) : Ev (fun k => almanacref12_Same.f k x.f0 x.f1 x.f2 x.f0 x.f1 x.f2) true := by
  induction h with
  | mk x h1 h2 h3 h4 ih => exact same_of x.f0 x.f1 x.f2 h1 h2 h3 ih
end Go.Proofs.Ytebmbfobmakheaa.PD
namespace Go.Proofs.Ytebmbfobmakheaa.PD
open Go.RowKit Go.Proofs.YtebmbfobmakheaaW.PrintWords Go.Proofs.YtebmbfobmakheaaW.PrintLast Go.Proofs.YtebmbfobmakheaaW.PrintMore
attribute [local go_sem] isSome_setCell max2_int min2_int max_two min_two
set_option linter.unusedVariables false
set_option linter.unusedSimpArgs false
set_option maxRecDepth 100000 in
set_option maxHeartbeats 1600000 in
theorem delivered_walk (nm : ByteArray) (A1 : Option Addr) (n1 c1 : Nat) (P : Nat → Prop) (A : Option Addr) (c : Nat) (l : List S25) (addr value : ByteArray) (w : World) (hs : Kd.V k25 25 w w.heap.size P (.slice A l.length c) l) (hlim : limO l = true) (ha : shortB addr = true) :
    Calls Try.prog 24 #[.agg #[.string nm, .slice A1 n1 c1, .slice A l.length c], .string addr, .string value] w fun e w' => ∃ v : Value, e = .returned (.agg #[.string nm, .slice A1 n1 c1, v]) ∧ Kd.N k25 25 w' w.heap.size (fun k => P k ∨ w.heap.size ≤ k) v (chgP (setF addr (⟨#[83, 67, 72, 69, 68, 85, 76, 69, 45, 83, 84, 65, 84, 85, 83]⟩ : ByteArray) value) l) ∧ Below w.heap.size w w' := by
  have HV := Aside0.mk hs
  clear hs
  go_enter Try.func24, Try.ntmps24
  go_wp2_with (go_at_call 59; refine Aside0.out ?_)
  refine ⟨?_⟩
  obtain ⟨W3, hW3⟩ : ∃ W3, (w.alloc (Obj.cells #[Value.string nm, Value.slice A1 n1 c1, Value.slice A l.length c] 25)).alloc (Obj.cells #[Value.string { data := #[] }, Value.slice none 0 0, Value.slice none 0 0] 25) = W3 := ⟨_, rfl⟩
  have hz3 : W3.heap.size = w.heap.size + 2 := by rw [← hW3]; simp
  have hb3 : Below w.heap.size w W3 := by rw [← hW3]; exact below_alloc (below_alloc (Below.refl _ _) _) _
  have kR : W3.heap[w.heap.size + 1]? = some (.cells #[.string ⟨#[]⟩, .slice none 0 0, .slice none 0 0] 25 (0, 0)) := by rw [← hW3]; exact alloc_at (by simp)
  rw [hW3]
  clear hW3
  refine (set_walk nm A1 n1 c1 (fun k => P k ∧ k < w.heap.size) A c l addr (⟨#[83, 67, 72, 69, 68, 85, 76, 69, 45, 83, 84, 65, 84, 85, 83]⟩ : ByteArray) value W3 (Kd.V_below (Kd.V_bound HV.out) hb3) hlim ha).mono ?_
  rintro e w5 ⟨v5, rfl, hn5, hb5⟩
  obtain ⟨A5, c5, rfl⟩ := Kd.N_slice hn5
  have hR5 := blk_below kR hb5
  have r0 : w5.cell? ⟨w.heap.size + 1, 0, none⟩ = some (.string ⟨#[]⟩) := (blk_cell hR5 0).trans rfl
  have r1 : w5.cell? ⟨w.heap.size + 1, 1, none⟩ = some (.slice none 0 0) := (blk_cell hR5 1).trans rfl
  have r2 : w5.cell? ⟨w.heap.size + 1, 2, none⟩ = some (.slice none 0 0) := (blk_cell hR5 2).trans rfl
  have t0 : w5.frozen? ⟨w.heap.size + 1, 0, none⟩ = false := blk_frozen hR5 0
  have t1 : w5.frozen? ⟨w.heap.size + 1, 1, none⟩ = false := blk_frozen hR5 1
  have t2 : w5.frozen? ⟨w.heap.size + 1, 2, none⟩ = false := blk_frozen hR5 2
  have HN5 := Aside0.mk (Kd.N_lower hn5 (show w.heap.size ≤ W3.heap.size by omega))
  rw [hz3] at HN5
  have HB5 := Aside0.mk (hb3.trans (hb5.mono (by omega)))
  have HR5 := Aside0.mk hR5
  clear hn5 hb5 hb3 hR5 kR
  go_wp2
  refine bodyPost_ret (results_box25 _ 6 rfl _ _ (w.heap.size + 1) nm A1 A5 n1 c1 _ c5 rfl (box3_at _ _ _ HR5.out)) rfl ?_
  exact ⟨_, rfl, N_boxed HN5.out (by omega) (by omega) _ _ _, below_boxed HB5.out (by omega) _ _ _⟩
def itip_Delivered.f (k : Nat) (a0_0 : ByteArray) (l0_1 : List (S45)) (l0_2 : List (S25)) (a1 : ByteArray) (a2 : ByteArray) : Option (ByteArray × (List (S45)) × (List (S25))) := if (limO l0_2 && shortB a1) = true then some (a0_0, l0_1, chgP (setF a1 (⟨#[83, 67, 72, 69, 68, 85, 76, 69, 45, 83, 84, 65, 84, 85, 83]⟩ : ByteArray) a2) l0_2) else none
theorem itip_Delivered.calls (k : Nat) (a0_0 : ByteArray) (P0_1_ : Nat → Prop) (A0_1 : Option Addr) (c0_1 : Nat) (l0_1 : List (S45)) (P0_2_ : Nat → Prop) (A0_2 : Option Addr) (c0_2 : Nat) (l0_2 : List (S25)) (a1 : ByteArray) (a2 : ByteArray) (r1 : ByteArray) (r2 : List (S45)) (r3 : List (S25)) (w : World) (hs0_1 : Kd.V k45 45 w w.heap.size (fun k_ => P0_1_ k_) (.slice A0_1 l0_1.length c0_1) l0_1) (hs0_2 : Kd.V k25 25 w w.heap.size (fun k_ => P0_2_ k_) (.slice A0_2 l0_2.length c0_2) l0_2) (h : itip_Delivered.f k a0_0 l0_1 l0_2 a1 a2 = some (r1, r2, r3)) :
    Calls Try.prog 24 #[.agg #[.string a0_0, .slice A0_1 l0_1.length c0_1, .slice A0_2 l0_2.length c0_2], .string a1, .string a2] w fun e w' => ∃ v1_ v2_ : Value, e = .returned (.agg #[.string r1, v1_, v2_]) ∧ Kd.V k45 45 w' w.heap.size (fun k_ => ((P0_1_ k_ ∨ P0_2_ k_) ∨ w.heap.size ≤ k_) ∧ some k_ ≠ (v2_ : Value).ownBlock) v1_ r2 ∧ Kd.N k25 25 w' w.heap.size (fun k_ => ((P0_1_ k_ ∨ P0_2_ k_) ∨ w.heap.size ≤ k_)) v2_ r3 ∧ Below w.heap.size w w' := by
  unfold itip_Delivered.f at h
  split at h
  case isFalse => cases h
  rename_i hc
  simp only [Bool.and_eq_true] at hc
  simp only [Option.some.injEq, Prod.mk.injEq] at h
  obtain ⟨rfl, rfl, rfl⟩ := h
  refine (delivered_walk a0_0 A0_1 _ c0_1 P0_2_ A0_2 c0_2 l0_2 a1 a2 w hs0_2 hc.1 hc.2).mono ?_
  rintro e w' ⟨v, rfl, hn, hb⟩
  exact ⟨_, v, rfl, V_beside hs0_1 hb hn, Kd.N_mono hn (fun k hk => hk.imp (fun h => .inr h) id), hb⟩
end Go.Proofs.Ytebmbfobmakheaa.PD
namespace Go.Proofs.Ytebmbfobmakheaa.PD
open Go.RowKit Go.Proofs.YtebmbfobmakheaaW.PrintWords Go.Proofs.YtebmbfobmakheaaW.PrintLast Go.Proofs.YtebmbfobmakheaaW.PrintMore
set_option linter.unusedVariables false
set_option linter.unusedSimpArgs false
theorem Few.limO {l1 : List S45} {l2 : List S25} (h : Few l1 l2) : limO l2 = true := by
  unfold PD.limO
  simp only [Bool.and_eq_true, decide_eq_true_eq, List.all_eq_true, Bool.or_eq_true, Bool.not_eq_true']
  refine ⟨h.limL.1, fun x hx => ⟨by have := (h.c.2.1 x hx).1; omega, fun p hp => .inr ⟨short_of (h.szP hx hp).1, ?_⟩⟩⟩
  have := ((h.c.2.1 x hx).2 p hp).1
  omega
theorem Few.okB {l1 : List S45} {l2 : List S25} (h : Few l1 l2) : okB l2 = true := by
  unfold PD.okB
  rw [List.all_eq_true]
  intro p hp
  obtain ⟨x, hx, hpx⟩ := attP_mem hp
  obtain ⟨s1, s2, s3⟩ := h.szP hx hpx
  rw [short_of s1, Bool.true_and]
  unfold paramP
  split
  · rename_i q hq
    have hqm := List.mem_of_find?_eq_some hq
    cases hv : q.f1 with
    | nil => exact short_of (by show (0 : Nat) ≤ _; omega)
    | cons v r => exact short_of ((s3 q hqm).2 v (by rw [hv]; exact List.mem_cons_self))
  · exact short_of (by show (0 : Nat) ≤ _; omega)
theorem chgP_len (G : List S45 → List S45) (l : List S25) : (chgP G l).length = l.length := by unfold chgP; rw [List.length_map]
theorem Few.same {l1 : List S45} {l2 : List S25} (h : Few l1 l2) (a : ByteArray) (l : List S45) (m : List S25) (h1 : l.length ≤ 4611686018427387904) (h2 : ∀ p ∈ l, LimP p) (h3 : m.length ≤ 4611686018427387904) (h4 : ∀ y ∈ m, Ln y) : Ev (fun k => almanacref12_Same.f k a l m a l m) true :=
  same_of a l m h1 h2 h3 (fun y hy => (h4 y hy).same)
end Go.Proofs.Ytebmbfobmakheaa.PD
namespace Go.Proofs.Ytebmbfobmakheaa.PD
open Go.RowKit Go.Proofs.YtebmbfobmakheaaW.PrintWords Go.Proofs.YtebmbfobmakheaaW.PrintLast Go.Proofs.YtebmbfobmakheaaW.PrintMore
attribute [local go_sem] isSome_setCell max2_int min2_int max_two min_two max_three min_three max_four min_four
set_option linter.unusedVariables false
set_option linter.unusedSimpArgs false
mutual
def almanaclaw26_ItipKeeps.l0 : Nat → ByteArray → ByteArray → Bool → List ByteArray → Int → Int → ByteArray → List (S45) → List (S25) → ByteArray → List (S45) → List (S25) → Option (Bool)
  | 0, _, _, _, _, _, _, _, _, _, _, _, _ => none
  | k + 1, x1, x2, x8, x24, x25, x26, x336000, x336001, x336002, x346000, x346001, x346002 => if x26 < x25 then (if 0 ≤ x26 then (if x26 < (x24.length : Int) then ((itip_User.f k (rdOf ByteArray.empty x24 x26)).bind fun bt350 => ((itip_User.f k x1).bind fun bt352 => (if x8 = true then (almanaclaw26_ItipKeeps.l0 k x1 x2 true x24 x25 (wrap64 (x26 + 1)) x336000 x336001 x336002 x346000 x346001 x346002) else (if (rdOf ByteArray.empty x24 x26).toList = x1.toList then (almanaclaw26_ItipKeeps.l0 k x1 x2 true x24 x25 (wrap64 (x26 + 1)) x336000 x336001 x336002 x346000 x346001 x346002) else (if bt350.2 = true then (if bt352.2 = true then (almanaclaw26_ItipKeeps.l0 k x1 x2 (bt350.1.toList == bt352.1.toList) x24 x25 (wrap64 (x26 + 1)) x336000 x336001 x336002 x346000 x346001 x346002) else (almanaclaw26_ItipKeeps.l0 k x1 x2 false x24 x25 (wrap64 (x26 + 1)) x336000 x336001 x336002 x346000 x346001 x346002)) else (almanaclaw26_ItipKeeps.l0 k x1 x2 false x24 x25 (wrap64 (x26 + 1)) x336000 x336001 x336002 x346000 x346001 x346002)))))) else (none)) else (none)) else (if x8 = true then ((itip_Status.f k x346000 x346001 x346002 x1).bind fun t354 => ((almanacref08_Upper.f x2).bind fun t355 => (if t354.toList = t355.toList then (almanaclaw26_ItipKeeps.j1 k x1 false x336000 x336001 x336002 x346000 x346001 x346002) else (almanaclaw26_ItipKeeps.j1 k x1 true x336000 x336001 x336002 x346000 x346001 x346002)))) else ((itip_Status.f k x336000 x336001 x336002 x1).bind fun t356 => (almanaclaw26_ItipKeeps.j1 k x1 (t356.toList != ([] : List UInt8)) x336000 x336001 x336002 x346000 x346001 x346002)))
def almanaclaw26_ItipKeeps.j1 : Nat → ByteArray → Bool → ByteArray → List (S45) → List (S25) → ByteArray → List (S45) → List (S25) → Option (Bool)
  | 0, _, _, _, _, _, _, _, _ => none
  | k + 1, x1, x76, x336000, x336001, x336002, x346000, x346001, x346002 => if x76 = true then (some false) else ((itip_Significant.f x336000 x336001 x336002 x336000 x336001 x336002).bind fun t357 => (if t357 = true then (some false) else ((itip_Significant.f x336000 x336001 x336002 x346000 x346001 x346002).bind fun t358 => (if t358 = true then (some false) else ((itip_Only.f k x336000 x336001 x336002 x1).bind fun bt359 => ((itip_Significant.f x336000 x336001 x336002 bt359.1 bt359.2.1 bt359.2.2).bind fun t366 => (if t366 = true then (some false) else ((itip_Message.f k x336000 x336001 x336002 (⟨#[88]⟩ : ByteArray)).bind fun bt367 => ((itip_Significant.f x336000 x336001 x336002 bt367.1 bt367.2.1 bt367.2.2).bind fun t374 => (if t374 = true then (some false) else ((itip_Delivered.f k x336000 x336001 x336002 x1 (⟨#[49]⟩ : ByteArray)).bind fun bt375 => ((itip_Significant.f x336000 x336001 x336002 bt375.1 bt375.2.1 bt375.2.2).bind fun t382 => (if t382 = true then (some false) else ((almanaclaw26_awake.f).bind fun t383 => (some t383)))))))))))))))
end
def almanaclaw26_ItipKeeps.f (k : Nat) (a0_0 : ByteArray) (l0_1 : List (S45)) (l0_2 : List (S25)) (a1 : ByteArray) (a2 : ByteArray) : Option (Bool) := (almanacref12_Light.f k a0_0 l0_1 l0_2).bind fun t336 => (if t336 = true then ((itip_SetStatus.f k a0_0 l0_1 l0_2 a1 a2).bind fun bt338 => ((itip_Attendees.f k a0_0 l0_1 l0_2).bind fun t346 => (almanaclaw26_ItipKeeps.l0 k a1 a2 false t346 (t346.length : Int) 0 a0_0 l0_1 l0_2 bt338.1 bt338.2.1 bt338.2.2))) else ((almanaclaw26_awake.f).bind fun t337 => (some t337)))
def almanaclaw26_ItipKeeps.T14 : Bool × List (List Nat × List Nat) := (true, [([], []), ([], []), ([0, 1], [0, 1]), ([2], [2]), ([3, 2], [3]), ([4], [4]), ([4], [4]), ([5, 6, 4, 4], [4, 5, 6]), ([7, 4], [4, 7]), ([4, 8], [4, 8]), ([9, 7], [9]), ([10], [10]), ([10], [10]), ([10], [10]), ([12, 13, 10, 10], [10, 12, 13]), ([11, 14, 14, 10], [10, 11, 14]), ([15, 10], [10, 15]), ([10, 16], [10, 16]), ([17, 15], [17]), ([18], [18]), ([18], [18]), ([20, 18, 18], [18, 20]), ([19, 21, 21, 18], [18, 19, 21]), ([22, 18], [18, 22]), ([18, 23], [18, 23]), ([24, 22], [24]), ([25], [25]), ([25], [25]), ([25], [25]), ([27, 28, 25, 25], [25, 27, 28]), ([26, 29, 29, 25], [25, 26, 29]), ([30, 25], [25, 30]), ([25, 31], [25, 31]), ([32, 30], [32]), ([33, 33], [33]), ([33, 34], [33, 34]), ([35, 34, 0, 1, 2, 3, 4, 5, 6, 7, 8, 9, 10, 11, 12, 13, 14, 15, 16, 17, 18, 19, 20, 21, 22, 23, 24, 25, 26, 27, 28, 29, 30, 31, 32, 33, 34, 35], [35])])
def almanaclaw26_ItipKeeps.B14 : List Nat := [0, 0, 3, 7, 15, 31, 31, 127, 255, 511, 1023, 2047, 2047, 2047, 14335, 32767, 65535, 131071, 262143, 524287, 524287, 1572863, 4194303, 8388607, 16777215, 33554431, 67108863, 67108863, 67108863, 469762047, 1073741823, 2147483647, 4294967295, 8589934591, 17179869183, 34359738367, 68719476735]
theorem almanaclaw26_ItipKeeps.tab14 : rtab .any (opsOf Try.f4 14) = almanaclaw26_ItipKeeps.T14 := by kernel_rfl
theorem almanaclaw26_ItipKeeps.bits14 : waitsOk almanaclaw26_ItipKeeps.T14.2 almanaclaw26_ItipKeeps.B14 = true := by kernel_rfl
set_option maxHeartbeats 8000000 in
set_option maxRecDepth 100000 in
theorem almanaclaw26_ItipKeeps.callsT (k : Nat) (a0_0 : ByteArray) (A0_1 : Option Addr) (c0_1 : Nat) (l0_1 : List (S45)) (A0_2 : Option Addr) (c0_2 : Nat) (l0_2 : List (S25)) (a1 : ByteArray) (a2 : ByteArray) (r : Bool) (w : World) (hr0_1 : Kd.C k45 w A0_1 l0_1.length l0_1) (hc0_1 : l0_1.length ≤ c0_1) (hr0_2 : Kd.C k25 w A0_2 l0_2.length l0_2) (hc0_2 : l0_2.length ≤ c0_2) (h : almanaclaw26_ItipKeeps.f k a0_0 l0_1 l0_2 a1 a2 = some r) (hr : r = true) :
    Calls Try.prog 4 #[.agg #[.string a0_0, .slice A0_1 l0_1.length c0_1, .slice A0_2 l0_2.length c0_2], .string a1, .string a2] w fun e w' => e = .returned (.bool r) ∧ Below w.heap.size w w' := by
  have HRT := Aside0.mk hr
  clear hr
  have hu25 := Try.underlying25
  have HR0_1 := Aside0.mk hr0_1
  have HC0_1 := Aside0.mk hc0_1
  clear hr0_1 hc0_1
  have HR0_2 := Aside0.mk hr0_2
  have HC0_2 := Aside0.mk hc0_2
  clear hr0_2 hc0_2
  have HB := Aside0.mk (Below.refl w.heap.size w)
  have H : ((almanacref12_Light.f k a0_0 l0_1 l0_2).bind fun t336 => (if t336 = true then ((itip_SetStatus.f k a0_0 l0_1 l0_2 a1 a2).bind fun bt338 => ((itip_Attendees.f k a0_0 l0_1 l0_2).bind fun t346 => (almanaclaw26_ItipKeeps.l0 k a1 a2 false t346 (t346.length : Int) 0 a0_0 l0_1 l0_2 bt338.1 bt338.2.1 bt338.2.2))) else ((almanaclaw26_awake.f).bind fun t337 => (some t337)))) = some r := h
  clear h
  replace H := Option.bind_eq_some_iff.mp H
  obtain ⟨t336, A40, H⟩ := H
  replace H : (if t336 = true then ((itip_SetStatus.f k a0_0 l0_1 l0_2 a1 a2).bind fun bt338 => ((itip_Attendees.f k a0_0 l0_1 l0_2).bind fun t346 => (almanaclaw26_ItipKeeps.l0 k a1 a2 false t346 (t346.length : Int) 0 a0_0 l0_1 l0_2 bt338.1 bt338.2.1 bt338.2.2))) else ((almanaclaw26_awake.f).bind fun t337 => (some t337))) = some r := H
  have A4 := Aside0.mk A40
  clear A40
  by_cases c5 : t336 = true
  · subst c5
    have H1 : ((itip_SetStatus.f k a0_0 l0_1 l0_2 a1 a2).bind fun bt338 => ((itip_Attendees.f k a0_0 l0_1 l0_2).bind fun t346 => (almanaclaw26_ItipKeeps.l0 k a1 a2 false t346 (t346.length : Int) 0 a0_0 l0_1 l0_2 bt338.1 bt338.2.1 bt338.2.2))) = some r := by rw [if_pos rfl] at H; exact H
    clear H
    have H := H1
    clear H1
    replace H := Option.bind_eq_some_iff.mp H
    obtain ⟨⟨t338, t339, t342⟩, A60, H⟩ := H
    replace H : ((itip_Attendees.f k a0_0 l0_1 l0_2).bind fun t346 => (almanaclaw26_ItipKeeps.l0 k a1 a2 false t346 (t346.length : Int) 0 a0_0 l0_1 l0_2 t338 t339 t342)) = some r := H
    have A6 := Aside0.mk A60
    clear A60
    replace H := Option.bind_eq_some_iff.mp H
    obtain ⟨t346, A70, H⟩ := H
    replace H : (almanaclaw26_ItipKeeps.l0 k a1 a2 false t346 (t346.length : Int) 0 a0_0 l0_1 l0_2 t338 t339 t342) = some r := H
    have A7 := Aside0.mk A70
    clear A70
    have H' := Aside0.mk H
    clear H
    go_enter Try.func4, Try.ntmps4
    go_wp2_with (first | ((with_reducible refine gate_dst (N := 3) rfl ?_); refine box_event ?hg (N := 3) ?hd (cs := #[.string a0_0, .slice A0_1 l0_1.length c0_1, .slice A0_2 l0_2.length c0_2]) (t := 25) ?hr ?_; (case hd => rfl); (case hg => rfl); (case hr => first | (go_simp; done) | (go_simp; rfl)); intro gb335 hg w8 hbox hb; have n0_ := Aside0.mk (below_step (by repeat (first | (with_reducible first | exact HB.out | apply below_alloc | apply pw_below_drewN | apply below_drew1) | exact HB.out)) hb); have n1_ := Aside0.mk (hbox); have n2_ := Aside0.mk ((by rw [hg]; exact (below_size (by repeat (first | (with_reducible first | exact HB.out | apply below_alloc | apply pw_below_drewN | apply below_drew1) | exact HB.out))) : w.heap.size ≤ gb335)); have n3_ := Aside0.mk ((by rw [hg]; exact (below_size (by repeat (first | (with_reducible first | exact HB.out | apply below_alloc | apply pw_below_drewN | apply below_drew1) | exact HB.out))) : w.heap.size ≤ gb335)); clear HB; have HB := n0_; have BK335 := n1_; have GW335 := n2_; have GE335 := n3_; clear n0_ n1_ n2_ n3_; clear hb hbox hg; have hcz9_0 : w8.cell? ⟨gb335, 0, none⟩ = some (.string a0_0) := (blk_cell BK335.out 0).trans rfl; have hcz9_1 : w8.cell? ⟨gb335, 1, none⟩ = some (.slice A0_1 l0_1.length c0_1) := (blk_cell BK335.out 1).trans rfl; have hcz9_2 : w8.cell? ⟨gb335, 2, none⟩ = some (.slice A0_2 l0_2.length c0_2) := (blk_cell BK335.out 2).trans rfl; have hfz9_0 := blk_frozen BK335.out 0; have hfz9_1 := blk_frozen BK335.out 1; have hfz9_2 := blk_frozen BK335.out 2) | ((with_reducible refine gate_callee (f := 6) rfl ?_); refine goesL_ (some 16) rfl rfl Try.func6 (by kernel_rfl) rfl #[.agg #[.string a0_0, .slice A0_1 l0_1.length c0_1, .slice A0_2 l0_2.length c0_2]] rfl (by (try simp only [List.map_toArray, List.map_cons, List.map_nil]); first | done | rfl | (simp only [List.length_drop, List.length_take]; rfl)) ?_; (with_reducible refine (almanacref12_Light.calls k a0_0 _ _ l0_1 _ _ l0_2 true _ ?side1 ?side2 ?side3 ?side4 A4.out).mono ?_); (case side1 => repeat (first | exact (Kd.C_below HR0_1.out HB.out) | (with_reducible refine Kd.C_alloc ?_ _) | (with_reducible refine Kd.C_drewN ?_ _) | (with_reducible refine Kd.C_drew ?_))); (case side2 => exact HC0_1.out); (case side3 => repeat (first | exact (Kd.C_below HR0_2.out HB.out) | (with_reducible refine Kd.C_alloc ?_ _) | (with_reducible refine Kd.C_drewN ?_ _) | (with_reducible refine Kd.C_drew ?_))); (case side4 => exact HC0_2.out); rintro e w10 ⟨rfl, hb⟩; refine ⟨_, rfl, ?_⟩; have n0_ := Aside0.mk (blk_below (g := gb335) (o := .cells #[.string a0_0, .slice A0_1 l0_1.length c0_1, .slice A0_2 l0_2.length c0_2] 25 (0, 0)) (by (with_reducible repeat (first | refine blk_drewN ?_ _ | refine blk_drew ?_ | refine blk_alloc ?_ _)); exact BK335.out) hb); have n1_ := Aside0.mk (below_step (by repeat (first | (with_reducible first | exact HB.out | apply below_alloc | apply pw_below_drewN | apply below_drew1 | refine below_set ?_ GE335.out) | exact HB.out)) hb); clear BK335; clear HB; have BK335 := n0_; have HB := n1_; clear n0_ n1_; (try clear hb); (try clear hb2); (try clear hk); (try clear hi); have hcz11_0 : w10.cell? ⟨gb335, 0, none⟩ = some (.string a0_0) := (blk_cell BK335.out 0).trans rfl; have hcz11_1 : w10.cell? ⟨gb335, 1, none⟩ = some (.slice A0_1 l0_1.length c0_1) := (blk_cell BK335.out 1).trans rfl; have hcz11_2 : w10.cell? ⟨gb335, 2, none⟩ = some (.slice A0_2 l0_2.length c0_2) := (blk_cell BK335.out 2).trans rfl; have hfz11_0 := blk_frozen BK335.out 0; have hfz11_1 := blk_frozen BK335.out 1; have hfz11_2 := blk_frozen BK335.out 2) | ((with_reducible refine gate_callee (f := 19) rfl ?_); refine goesL_ (some 22) rfl rfl Try.func19 (by kernel_rfl) rfl #[.agg #[.string a0_0, .slice A0_1 l0_1.length c0_1, .slice A0_2 l0_2.length c0_2], .string a1, .string a2] rfl (by (try simp only [List.map_toArray, List.map_cons, List.map_nil]); first | done | rfl | (simp only [List.length_drop, List.length_take]; rfl)) ?_; (with_reducible refine (itip_SetStatus.calls k a0_0 (fun k_ => k_ < w.heap.size) _ _ l0_1 (fun k_ => k_ < w.heap.size) _ _ l0_2 a1 a2 t338 t339 t342 _ ?side1 ?side2 A6.out).mono ?_); (case side1 => exact Kd.V_mk HC0_1.out (Kd.F_below (Kd.C_F k45_heap HR0_1.out) (by repeat (first | (with_reducible first | exact HB.out | apply below_alloc | apply pw_below_drewN | apply below_drew1 | refine below_set ?_ GE335.out) | exact HB.out)))); (case side2 => exact Kd.V_mk HC0_2.out (Kd.F_below (Kd.C_F k25_heap HR0_2.out) (by repeat (first | (with_reducible first | exact HB.out | apply below_alloc | apply pw_below_drewN | apply below_drew1 | refine below_set ?_ GE335.out) | exact HB.out)))); rintro e w12 ⟨v340, v343, rfl, ho0, ho1, hb⟩; refine ⟨_, rfl, ?_⟩; have n0_ := Aside0.mk (Kd.V_lower (Kd.V_mono (ok' := fun k_ => some k_ ≠ (v343 : Value).ownBlock ∧ k_ ≠ gb335) ho0 (fun k_ hk_ => ⟨hk_.2, Or.elim hk_.1 (fun hs_ => Or.elim hs_ (fun hs_ => fun e_ => Nat.not_le.2 hs_ (by rw [e_]; exact GW335.out)) (fun hs_ => fun e_ => Nat.not_le.2 hs_ (by rw [e_]; exact GW335.out))) (fun hn_ => (Kd.freshB (g := gb335) (o := .cells #[.string a0_0, .slice A0_1 l0_1.length c0_1, .slice A0_2 l0_2.length c0_2] 25 (0, 0)) (by (with_reducible repeat (first | refine blk_drewN ?_ _ | refine blk_drew ?_ | refine blk_alloc ?_ _)); exact BK335.out) k_ hn_))⟩)) (below_size (by repeat (first | (with_reducible first | exact HB.out | apply below_alloc | apply pw_below_drewN | apply below_drew1 | refine below_set ?_ GE335.out) | exact HB.out)))); have n1_ := Aside0.mk (Kd.N_lower (Kd.N_mono (ok' := fun k_ => k_ ≠ gb335) ho1 (fun k_ hk_ => Or.elim hk_ (fun hs_ => Or.elim hs_ (fun hs_ => fun e_ => Nat.not_le.2 hs_ (by rw [e_]; exact GW335.out)) (fun hs_ => fun e_ => Nat.not_le.2 hs_ (by rw [e_]; exact GW335.out))) (fun hn_ => (Kd.freshB (g := gb335) (o := .cells #[.string a0_0, .slice A0_1 l0_1.length c0_1, .slice A0_2 l0_2.length c0_2] 25 (0, 0)) (by (with_reducible repeat (first | refine blk_drewN ?_ _ | refine blk_drew ?_ | refine blk_alloc ?_ _)); exact BK335.out) k_ hn_)))) (below_size (by repeat (first | (with_reducible first | exact HB.out | apply below_alloc | apply pw_below_drewN | apply below_drew1 | refine below_set ?_ GE335.out) | exact HB.out)))); have n2_ := Aside0.mk (blk_below (g := gb335) (o := .cells #[.string a0_0, .slice A0_1 l0_1.length c0_1, .slice A0_2 l0_2.length c0_2] 25 (0, 0)) (by (with_reducible repeat (first | refine blk_drewN ?_ _ | refine blk_drew ?_ | refine blk_alloc ?_ _)); exact BK335.out) hb); have n3_ := Aside0.mk (below_step (by repeat (first | (with_reducible first | exact HB.out | apply below_alloc | apply pw_below_drewN | apply below_drew1 | refine below_set ?_ GE335.out) | exact HB.out)) hb); clear BK335; clear HB; have HO341 := n0_; have HO344 := n1_; have BK335 := n2_; have HB := n3_; clear n0_ n1_ n2_ n3_; (try clear hb); (try clear hb2); (try clear hk); (try clear hi); (try clear ho0); (try clear ho1)) | ((with_reducible refine gate_dst (N := 7) rfl ?_); refine box_event ?hg (N := 7) ?hd (cs := #[.string (⟨#[]⟩ : ByteArray), .slice none 0 0, .slice none 0 0]) (t := 25) ?hr ?_; (case hd => rfl); (case hg => rfl); (case hr => first | (go_simp; done) | (go_simp; rfl)); intro gb345 hg w13 hbox hb; have n0_ := Aside0.mk (Kd.V_below (Kd.V_elderB (by (with_reducible repeat (first | apply Kd.V_alloc | apply Kd.V_drewN | apply Kd.V_drew)); exact HO341.out) gb345 (Nat.le_of_eq hg.symm)) hb); have n1_ := Aside0.mk (Kd.N_below (Kd.N_elderB (by (with_reducible repeat (first | apply Kd.N_alloc | apply Kd.N_drewN | apply Kd.N_drew)); exact HO344.out) gb345 (Nat.le_of_eq hg.symm)) hb); have n2_ := Aside0.mk (blk_below (g := gb335) (o := .cells #[.string a0_0, .slice A0_1 l0_1.length c0_1, .slice A0_2 l0_2.length c0_2] 25 (0, 0)) (by (with_reducible repeat (first | refine blk_drewN ?_ _ | refine blk_drew ?_ | refine blk_alloc ?_ _)); exact BK335.out) hb); have n3_ := Aside0.mk (below_step (by repeat (first | (with_reducible first | exact HB.out | apply below_alloc | apply pw_below_drewN | apply below_drew1 | refine below_set ?_ GE335.out) | exact HB.out)) hb); have n4_ := Aside0.mk (hbox); have n5_ := Aside0.mk ((by rw [hg]; exact (below_size (by repeat (first | (with_reducible first | exact HB.out | apply below_alloc | apply pw_below_drewN | apply below_drew1 | refine below_set ?_ GE335.out) | exact HB.out))) : w.heap.size ≤ gb345)); have n6_ := Aside0.mk ((by rw [hg]; exact (below_size (by repeat (first | (with_reducible first | exact HB.out | apply below_alloc | apply pw_below_drewN | apply below_drew1 | refine below_set ?_ GE335.out) | exact HB.out))) : w.heap.size ≤ gb345)); have n7_ := Aside0.mk ((by rw [hg]; exact Nat.ne_of_lt (blk_lt (g := gb335) (o := .cells #[.string a0_0, .slice A0_1 l0_1.length c0_1, .slice A0_2 l0_2.length c0_2] 25 (0, 0)) (by (with_reducible repeat (first | refine blk_drewN ?_ _ | refine blk_drew ?_ | refine blk_alloc ?_ _)); exact BK335.out)) : gb335 ≠ gb345)); have n8_ := Aside0.mk ((by rw [hg]; exact Nat.ne_of_gt (blk_lt (g := gb335) (o := .cells #[.string a0_0, .slice A0_1 l0_1.length c0_1, .slice A0_2 l0_2.length c0_2] 25 (0, 0)) (by (with_reducible repeat (first | refine blk_drewN ?_ _ | refine blk_drew ?_ | refine blk_alloc ?_ _)); exact BK335.out)) : gb345 ≠ gb335)); clear HO341; clear HO344; clear BK335; clear HB; have HO341 := n0_; have HO344 := n1_; have BK335 := n2_; have HB := n3_; have BK345 := n4_; have GW345 := n5_; have GE345 := n6_; have NB335_345 := n7_; have NB345_335 := n8_; clear n0_ n1_ n2_ n3_ n4_ n5_ n6_ n7_ n8_; clear hb hbox hg; have hnb14 := NB345_335.out; have hnc14 := NB335_345.out; have hcz15_0 : w13.cell? ⟨gb345, 0, none⟩ = some (.string (⟨#[]⟩ : ByteArray)) := (blk_cell BK345.out 0).trans rfl; have hcz15_1 : w13.cell? ⟨gb345, 1, none⟩ = some (.slice none 0 0) := (blk_cell BK345.out 1).trans rfl; have hcz15_2 : w13.cell? ⟨gb345, 2, none⟩ = some (.slice none 0 0) := (blk_cell BK345.out 2).trans rfl; have hfz15_0 := blk_frozen BK345.out 0; have hfz15_1 := blk_frozen BK345.out 1; have hfz15_2 := blk_frozen BK345.out 2; obtain ⟨Ao16, co16, eo16⟩ := Kd.V_slice HO341.out; subst eo16; obtain ⟨Ao17, co17, eo17⟩ := Kd.N_slice HO344.out; subst eo17; have hcz18_0 : w13.cell? ⟨gb335, 0, none⟩ = some (.string a0_0) := (blk_cell BK335.out 0).trans rfl; have hcz18_1 : w13.cell? ⟨gb335, 1, none⟩ = some (.slice A0_1 l0_1.length c0_1) := (blk_cell BK335.out 1).trans rfl; have hcz18_2 : w13.cell? ⟨gb335, 2, none⟩ = some (.slice A0_2 l0_2.length c0_2) := (blk_cell BK335.out 2).trans rfl; have hfz18_0 := blk_frozen BK335.out 0; have hfz18_1 := blk_frozen BK335.out 1; have hfz18_2 := blk_frozen BK335.out 2) | ((with_reducible refine gate_callee (f := 15) rfl ?_); refine goesL_ (some 24) rfl rfl Try.func15 (by kernel_rfl) rfl #[.agg #[.string a0_0, .slice A0_1 l0_1.length c0_1, .slice A0_2 l0_2.length c0_2]] rfl (by (try simp only [List.map_toArray, List.map_cons, List.map_nil]); first | done | rfl | (simp only [List.length_drop, List.length_take]; rfl)) ?_; (with_reducible refine (itip_Attendees.calls k a0_0 _ _ l0_1 _ _ l0_2 t346 _ ?side1 ?side2 ?side3 ?side4 A7.out).mono ?_); (case side1 => exact Kd.C_below HR0_1.out (by repeat (first | (with_reducible first | exact HB.out | apply below_alloc | apply pw_below_drewN | apply below_drew1 | refine below_set ?_ GE335.out | refine below_set ?_ GE345.out) | exact HB.out))); (case side2 => exact HC0_1.out); (case side3 => exact Kd.C_below HR0_2.out (by repeat (first | (with_reducible first | exact HB.out | apply below_alloc | apply pw_below_drewN | apply below_drew1 | refine below_set ?_ GE335.out | refine below_set ?_ GE345.out) | exact HB.out))); (case side4 => exact HC0_2.out); rintro e w19 ⟨v347, rfl, ho0, hb⟩; refine ⟨_, rfl, ?_⟩; have n0_ := Aside0.mk (Kd.V_elder' (by (with_reducible repeat (first | apply Kd.V_alloc | apply Kd.V_drewN | apply Kd.V_drew)); exact (Kd.V_mono (Kd.V_far (p := ⟨gb345, 2, none⟩) (Kd.V_far (p := ⟨gb345, 1, none⟩) (Kd.V_far (p := ⟨gb345, 0, none⟩) (Kd.V_mono HO341.out (fun k_ hk => (⟨hk, hk.2⟩ : _ ∧ k_ ≠ gb345))) (fun _ hk => hk.2) (.string t338)) (fun _ hk => hk.2) (.slice Ao16 t339.length co16)) (fun _ hk => hk.2) (.slice Ao17 t342.length co17)) (fun _ h_ => h_.1))) (Kd.R_base ho0) hb); have n1_ := Aside0.mk (Kd.N_elder' (by (with_reducible repeat (first | apply Kd.N_alloc | apply Kd.N_drewN | apply Kd.N_drew)); exact (Kd.N_mono (Kd.N_far (p := ⟨gb345, 2, none⟩) (Kd.N_far (p := ⟨gb345, 1, none⟩) (Kd.N_far (p := ⟨gb345, 0, none⟩) (Kd.N_mono HO344.out (fun k_ hk => (⟨hk, hk.2⟩ : _ ∧ k_ ≠ gb345))) (fun _ hk => hk.2) (.string t338)) (fun _ hk => hk.2) (.slice Ao16 t339.length co16)) (fun _ hk => hk.2) (.slice Ao17 t342.length co17)) (fun _ h_ => h_.1))) (Kd.R_base ho0) hb); have n2_ := Aside0.mk (Kd.R_lower ho0 (below_size (by repeat (first | (with_reducible first | exact HB.out | apply below_alloc | apply pw_below_drewN | apply below_drew1 | refine below_set ?_ GE335.out | refine below_set ?_ GE345.out) | exact HB.out)))); have n3_ := Aside0.mk (blk_below (g := gb335) (o := .cells #[.string a0_0, .slice A0_1 l0_1.length c0_1, .slice A0_2 l0_2.length c0_2] 25 (0, 0)) (by (with_reducible repeat (first | refine blk_drewN ?_ _ | refine blk_drew ?_ | refine blk_alloc ?_ _)); refine blk_far ?_ NB335_345.out _; (with_reducible repeat (first | refine blk_drewN ?_ _ | refine blk_drew ?_ | refine blk_alloc ?_ _)); refine blk_far ?_ NB335_345.out _; (with_reducible repeat (first | refine blk_drewN ?_ _ | refine blk_drew ?_ | refine blk_alloc ?_ _)); refine blk_far ?_ NB335_345.out _; (with_reducible repeat (first | refine blk_drewN ?_ _ | refine blk_drew ?_ | refine blk_alloc ?_ _)); exact BK335.out) hb); have n4_ := Aside0.mk (blk_below (g := gb345) (o := .cells #[.string t338, .slice Ao16 t339.length co16, .slice Ao17 t342.length co17] 25 (0, 0)) (by (with_reducible repeat (first | refine blk_drewN ?_ _ | refine blk_drew ?_ | refine blk_alloc ?_ _)); refine blk_put (cs := #[.string t338, .slice Ao16 t339.length co16, .slice none 0 0]) ?_ 2 _ rfl; (with_reducible repeat (first | refine blk_drewN ?_ _ | refine blk_drew ?_ | refine blk_alloc ?_ _)); refine blk_put (cs := #[.string t338, .slice none 0 0, .slice none 0 0]) ?_ 1 _ rfl; (with_reducible repeat (first | refine blk_drewN ?_ _ | refine blk_drew ?_ | refine blk_alloc ?_ _)); refine blk_put (cs := #[.string (⟨#[]⟩ : ByteArray), .slice none 0 0, .slice none 0 0]) ?_ 0 _ rfl; (with_reducible repeat (first | refine blk_drewN ?_ _ | refine blk_drew ?_ | refine blk_alloc ?_ _)); exact BK345.out) hb); have n5_ := Aside0.mk (below_step (by repeat (first | (with_reducible first | exact HB.out | apply below_alloc | apply pw_below_drewN | apply below_drew1 | refine below_set ?_ GE335.out | refine below_set ?_ GE345.out) | exact HB.out)) hb); clear HO341; clear HO344; clear BK335; clear BK345; clear HB; have HO341 := n0_; have HO344 := n1_; have HO348 := n2_; have BK335 := n3_; have BK345 := n4_; have HB := n5_; clear n0_ n1_ n2_ n3_ n4_ n5_; (try clear hb); (try clear hb2); (try clear hk); (try clear hi); (try clear ho0); obtain ⟨Ao20, co20, eo20⟩ := Kd.R_slice HO348.out; subst eo20))
    go_loopg [8, 26] k (fun kq v8 v26 w' => ∃ (x8_1 : Bool) (x26_1 : Int), v8 = .bool x8_1 ∧ v26 = .int .i64 x26_1 ∧ Aside0 (almanaclaw26_ItipKeeps.l0 kq a1 a2 x8_1 t346 (t346.length : Int) x26_1 a0_0 l0_1 l0_2 t338 t339 t342 = some r) ∧ Aside0 (kq ≤ k) ∧ Aside0 (Kd.R Kd.string 9 w' w.heap.size (fun _ => True) (.slice Ao20 t346.length co20) t346) ∧ Aside0 (Kd.V k45 45 w' w.heap.size (fun k_ => some k_ ≠ ((.slice Ao20 t346.length co20) : Value).ownBlock ∧ some k_ ≠ ((.slice Ao17 t342.length co17) : Value).ownBlock ∧ k_ ≠ gb335 ∧ k_ ≠ gb345) (.slice Ao16 t339.length co16) t339) ∧ Aside0 (Kd.N k25 25 w' w.heap.size (fun k_ => some k_ ≠ ((.slice Ao20 t346.length co20) : Value).ownBlock ∧ k_ ≠ gb335 ∧ k_ ≠ gb345) (.slice Ao17 t342.length co17) t342) ∧ Aside0 (w'.heap[gb335]? = some (.cells #[.string a0_0, (.slice A0_1 l0_1.length c0_1), (.slice A0_2 l0_2.length c0_2)] 25 (0, 0))) ∧ Aside0 (w'.heap[gb345]? = some (.cells #[.string t338, (.slice Ao16 t339.length co16), (.slice Ao17 t342.length co17)] 25 (0, 0))) ∧ Aside0 (Below w.heap.size w w'))
    case atStart => exact ⟨(false), (0), (by first | rfl | (simp; done) | (simp [*]; done)), (by first | rfl | (simp; done) | (simp [*]; done)), H', ⟨Nat.le_refl _⟩, ⟨by (with_reducible repeat (first | apply Kd.R_alloc | apply Kd.R_drewN | apply Kd.R_drew)); exact HO348.out⟩, ⟨by (with_reducible repeat (first | apply Kd.V_alloc | apply Kd.V_drewN | apply Kd.V_drew)); exact Kd.V_mono HO341.out (fun _ hk => ⟨hk.2, ⟨hk.1.1.1, ⟨hk.1.1.2, hk.1.2⟩⟩⟩)⟩, ⟨by (with_reducible repeat (first | apply Kd.N_alloc | apply Kd.N_drewN | apply Kd.N_drew)); exact Kd.N_mono HO344.out (fun _ hk => ⟨hk.2, ⟨hk.1.1, hk.1.2⟩⟩)⟩, ⟨by (with_reducible repeat (first | refine blk_drewN ?_ _ | refine blk_drew ?_ | refine blk_alloc ?_ _)); exact BK335.out⟩, ⟨by (with_reducible repeat (first | refine blk_drewN ?_ _ | refine blk_drew ?_ | refine blk_alloc ?_ _)); exact BK345.out⟩, ⟨by repeat (first | (with_reducible first | exact HB.out | apply below_alloc | apply pw_below_drewN | apply below_drew1 | refine below_set ?_ GE335.out | refine below_set ?_ GE345.out) | exact HB.out)⟩⟩
    case round =>
      clear H'
      try clear c1
      try clear p2
      try clear c4
      try clear c5
      try clear c6
      try clear c14
      try clear c15
      try clear c19
      try clear hcz11_0
      try clear hcz11_1
      try clear hcz11_2
      try clear hcz15_0
      try clear hcz15_1
      try clear hcz15_2
      try clear hcz18_0
      try clear hcz18_1
      try clear hcz18_2
      try clear hcz9_0
      try clear hcz9_1
      try clear hcz9_2
      try clear hfz11_0
      try clear hfz11_1
      try clear hfz11_2
      try clear hfz15_0
      try clear hfz15_1
      try clear hfz15_2
      try clear hfz18_0
      try clear hfz18_1
      try clear hfz18_2
      try clear hfz9_0
      try clear hfz9_1
      try clear hfz9_2
      obtain ⟨x8_1, x26_1, rfl, rfl, HA, HK1, HO_24, HO_346001, HO_346002, BK335, BK345, HB⟩ := hrel
      cases gk with
      | zero => exact absurd HA.out (by simp [almanaclaw26_ItipKeeps.l0])
      | succ k1 =>
        have H := HA.out
        clear HA
        simp only [almanaclaw26_ItipKeeps.l0] at H
        by_cases c21 : x26_1 < (t346.length : Int)
        · rw [if_pos c21] at H
          have c21b0 : decide (x26_1 < (t346.length : Int)) = true := decide_eq_true c21
          clear c21
          by_cases c22 : 0 ≤ x26_1
          · rw [if_pos c22] at H
            have c22b0 : decide (0 ≤ x26_1) = true := decide_eq_true c22
            clear c22
            by_cases c23 : x26_1 < (t346.length : Int)
            · rw [if_pos c23] at H
              have c23b0 : decide (x26_1 < (t346.length : Int)) = true := decide_eq_true c23
              clear c23
              replace H := Option.bind_eq_some_iff.mp H
              obtain ⟨⟨t350, t351⟩, A240, H⟩ := H
              replace H : ((itip_User.f k1 a1).bind fun bt352 => (if x8_1 = true then (almanaclaw26_ItipKeeps.l0 k1 a1 a2 true t346 (t346.length : Int) (wrap64 (x26_1 + 1)) a0_0 l0_1 l0_2 t338 t339 t342) else (if (rdOf ByteArray.empty t346 x26_1).toList = a1.toList then (almanaclaw26_ItipKeeps.l0 k1 a1 a2 true t346 (t346.length : Int) (wrap64 (x26_1 + 1)) a0_0 l0_1 l0_2 t338 t339 t342) else (if t351 = true then (if bt352.2 = true then (almanaclaw26_ItipKeeps.l0 k1 a1 a2 (t350.toList == bt352.1.toList) t346 (t346.length : Int) (wrap64 (x26_1 + 1)) a0_0 l0_1 l0_2 t338 t339 t342) else (almanaclaw26_ItipKeeps.l0 k1 a1 a2 false t346 (t346.length : Int) (wrap64 (x26_1 + 1)) a0_0 l0_1 l0_2 t338 t339 t342)) else (almanaclaw26_ItipKeeps.l0 k1 a1 a2 false t346 (t346.length : Int) (wrap64 (x26_1 + 1)) a0_0 l0_1 l0_2 t338 t339 t342))))) = some r := H
              have A24 := Aside0.mk A240
              clear A240
              replace H := Option.bind_eq_some_iff.mp H
              obtain ⟨⟨t352, t353⟩, A250, H⟩ := H
              replace H : (if x8_1 = true then (almanaclaw26_ItipKeeps.l0 k1 a1 a2 true t346 (t346.length : Int) (wrap64 (x26_1 + 1)) a0_0 l0_1 l0_2 t338 t339 t342) else (if (rdOf ByteArray.empty t346 x26_1).toList = a1.toList then (almanaclaw26_ItipKeeps.l0 k1 a1 a2 true t346 (t346.length : Int) (wrap64 (x26_1 + 1)) a0_0 l0_1 l0_2 t338 t339 t342) else (if t351 = true then (if t353 = true then (almanaclaw26_ItipKeeps.l0 k1 a1 a2 (t350.toList == t352.toList) t346 (t346.length : Int) (wrap64 (x26_1 + 1)) a0_0 l0_1 l0_2 t338 t339 t342) else (almanaclaw26_ItipKeeps.l0 k1 a1 a2 false t346 (t346.length : Int) (wrap64 (x26_1 + 1)) a0_0 l0_1 l0_2 t338 t339 t342)) else (almanaclaw26_ItipKeeps.l0 k1 a1 a2 false t346 (t346.length : Int) (wrap64 (x26_1 + 1)) a0_0 l0_1 l0_2 t338 t339 t342)))) = some r := H
              have A25 := Aside0.mk A250
              clear A250
              by_cases c26 : x8_1 = true
              · subst c26
                have H1 : (almanaclaw26_ItipKeeps.l0 k1 a1 a2 true t346 (t346.length : Int) (wrap64 (x26_1 + 1)) a0_0 l0_1 l0_2 t338 t339 t342) = some r := by rw [if_pos rfl] at H; exact H
                clear H
                have H := H1
                clear H1
                have H' := Aside0.mk H
                clear H
                have p349 : 0 ≤ (x26_1 : Int) := of_decide_eq_true (by first | (with_reducible assumption) | assumption)
                have q349 : x26_1 < (t346.length : Int) := of_decide_eq_true (by first | (with_reducible assumption) | assumption)
                obtain ⟨ad349, e349, hx349_0⟩ := Kd.at_string (Kd.R_reads' HO_24.out).2.2 x26_1 p349 q349
                cases e349
                replace p349 := eq_true p349
                replace q349 := eq_true q349
                go_wp2_with (first | ((with_reducible refine gate_callee (f := 8) rfl ?_); refine goesL_ (some 32) rfl rfl Try.func8 (by kernel_rfl) rfl #[.string (rdOf ByteArray.empty t346 x26_1)] rfl (by (try simp only [List.map_toArray, List.map_cons, List.map_nil]); first | done | rfl | (simp only [List.length_drop, List.length_take]; rfl)) ?_; (with_reducible refine (itip_User.calls k1 (rdOf ByteArray.empty t346 x26_1) t350 t351 _ A24.out).mono ?_); rintro e w27 ⟨rfl, hb⟩; refine ⟨_, rfl, ?_⟩; have n0_ := Aside0.mk (Kd.R_below (by (with_reducible repeat (first | apply Kd.R_alloc | apply Kd.R_drewN | apply Kd.R_drew)); exact HO_24.out) hb); have n1_ := Aside0.mk (Kd.V_below (by (with_reducible repeat (first | apply Kd.V_alloc | apply Kd.V_drewN | apply Kd.V_drew)); exact HO_346001.out) hb); have n2_ := Aside0.mk (Kd.N_below (by (with_reducible repeat (first | apply Kd.N_alloc | apply Kd.N_drewN | apply Kd.N_drew)); exact HO_346002.out) hb); have n3_ := Aside0.mk (blk_below (g := gb335) (o := .cells #[.string a0_0, .slice A0_1 l0_1.length c0_1, .slice A0_2 l0_2.length c0_2] 25 (0, 0)) (by (with_reducible repeat (first | refine blk_drewN ?_ _ | refine blk_drew ?_ | refine blk_alloc ?_ _)); exact BK335.out) hb); have n4_ := Aside0.mk (blk_below (g := gb345) (o := .cells #[.string t338, .slice Ao16 t339.length co16, .slice Ao17 t342.length co17] 25 (0, 0)) (by (with_reducible repeat (first | refine blk_drewN ?_ _ | refine blk_drew ?_ | refine blk_alloc ?_ _)); exact BK345.out) hb); have n5_ := Aside0.mk (below_step (by repeat (first | (with_reducible first | exact HB.out | apply below_alloc | apply pw_below_drewN | apply below_drew1 | refine below_set ?_ GE335.out | refine below_set ?_ GE345.out) | exact HB.out)) hb); clear HO_24; clear HO_346001; clear HO_346002; clear BK335; clear BK345; clear HB; have HO_24 := n0_; have HO_346001 := n1_; have HO_346002 := n2_; have BK335 := n3_; have BK345 := n4_; have HB := n5_; clear n0_ n1_ n2_ n3_ n4_ n5_; (try clear hb); (try clear hb2); (try clear hk); (try clear hi)) | ((with_reducible refine gate_callee (f := 8) rfl ?_); refine goesL_ (some 37) rfl rfl Try.func8 (by kernel_rfl) rfl #[.string a1] rfl (by (try simp only [List.map_toArray, List.map_cons, List.map_nil]); first | done | rfl | (simp only [List.length_drop, List.length_take]; rfl)) ?_; (with_reducible refine (itip_User.calls k1 a1 t352 t353 _ A25.out).mono ?_); rintro e w28 ⟨rfl, hb⟩; refine ⟨_, rfl, ?_⟩; have n0_ := Aside0.mk (Kd.R_below (by (with_reducible repeat (first | apply Kd.R_alloc | apply Kd.R_drewN | apply Kd.R_drew)); exact HO_24.out) hb); have n1_ := Aside0.mk (Kd.V_below (by (with_reducible repeat (first | apply Kd.V_alloc | apply Kd.V_drewN | apply Kd.V_drew)); exact HO_346001.out) hb); have n2_ := Aside0.mk (Kd.N_below (by (with_reducible repeat (first | apply Kd.N_alloc | apply Kd.N_drewN | apply Kd.N_drew)); exact HO_346002.out) hb); have n3_ := Aside0.mk (blk_below (g := gb335) (o := .cells #[.string a0_0, .slice A0_1 l0_1.length c0_1, .slice A0_2 l0_2.length c0_2] 25 (0, 0)) (by (with_reducible repeat (first | refine blk_drewN ?_ _ | refine blk_drew ?_ | refine blk_alloc ?_ _)); exact BK335.out) hb); have n4_ := Aside0.mk (blk_below (g := gb345) (o := .cells #[.string t338, .slice Ao16 t339.length co16, .slice Ao17 t342.length co17] 25 (0, 0)) (by (with_reducible repeat (first | refine blk_drewN ?_ _ | refine blk_drew ?_ | refine blk_alloc ?_ _)); exact BK345.out) hb); have n5_ := Aside0.mk (below_step (by repeat (first | (with_reducible first | exact HB.out | apply below_alloc | apply pw_below_drewN | apply below_drew1 | refine below_set ?_ GE335.out | refine below_set ?_ GE345.out) | exact HB.out)) hb); clear HO_24; clear HO_346001; clear HO_346002; clear BK335; clear BK345; clear HB; have HO_24 := n0_; have HO_346001 := n1_; have HO_346002 := n2_; have BK335 := n3_; have BK345 := n4_; have HB := n5_; clear n0_ n1_ n2_ n3_ n4_ n5_; (try clear hb); (try clear hb2); (try clear hk); (try clear hi)))
                go_roundg k1
                case measure => have := HK1.out; omega
                case rel => exact ⟨(true), (wrap64 (x26_1 + 1)), (by first | rfl | (simp; done) | (simp [*]; done)), (by first | rfl | (simp; done) | (simp [*]; done)), H', ⟨by have := HK1.out; omega⟩, ⟨by (with_reducible repeat (first | apply Kd.R_alloc | apply Kd.R_drewN | apply Kd.R_drew)); exact HO_24.out⟩, ⟨by (with_reducible repeat (first | apply Kd.V_alloc | apply Kd.V_drewN | apply Kd.V_drew)); exact HO_346001.out⟩, ⟨by (with_reducible repeat (first | apply Kd.N_alloc | apply Kd.N_drewN | apply Kd.N_drew)); exact HO_346002.out⟩, ⟨by (with_reducible repeat (first | refine blk_drewN ?_ _ | refine blk_drew ?_ | refine blk_alloc ?_ _)); exact BK335.out⟩, ⟨by (with_reducible repeat (first | refine blk_drewN ?_ _ | refine blk_drew ?_ | refine blk_alloc ?_ _)); exact BK345.out⟩, ⟨by repeat (first | (with_reducible first | exact HB.out | apply below_alloc | apply pw_below_drewN | apply below_drew1 | refine below_set ?_ GE335.out | refine below_set ?_ GE345.out) | exact HB.out)⟩⟩
              · replace c26 := Bool.eq_false_iff.mpr c26
                subst c26
                have H1 : (if (rdOf ByteArray.empty t346 x26_1).toList = a1.toList then (almanaclaw26_ItipKeeps.l0 k1 a1 a2 true t346 (t346.length : Int) (wrap64 (x26_1 + 1)) a0_0 l0_1 l0_2 t338 t339 t342) else (if t351 = true then (if t353 = true then (almanaclaw26_ItipKeeps.l0 k1 a1 a2 (t350.toList == t352.toList) t346 (t346.length : Int) (wrap64 (x26_1 + 1)) a0_0 l0_1 l0_2 t338 t339 t342) else (almanaclaw26_ItipKeeps.l0 k1 a1 a2 false t346 (t346.length : Int) (wrap64 (x26_1 + 1)) a0_0 l0_1 l0_2 t338 t339 t342)) else (almanaclaw26_ItipKeeps.l0 k1 a1 a2 false t346 (t346.length : Int) (wrap64 (x26_1 + 1)) a0_0 l0_1 l0_2 t338 t339 t342))) = some r := by rw [if_neg (show ¬ (false = true) by decide)] at H; exact H
                clear H
                have H := H1
                clear H1
                by_cases c29 : (rdOf ByteArray.empty t346 x26_1).toList = a1.toList
                · rw [if_pos c29] at H
                  have c29b0 : ((rdOf ByteArray.empty t346 x26_1).toList == a1.toList) = true := beq_iff_eq.mpr c29
                  have c29b1 : ((rdOf ByteArray.empty t346 x26_1).toList != a1.toList) = false := bne_eq_false_iff_eq.mpr c29
                  clear c29
                  have H' := Aside0.mk H
                  clear H
                  have p349 : 0 ≤ (x26_1 : Int) := of_decide_eq_true (by first | (with_reducible assumption) | assumption)
                  have q349 : x26_1 < (t346.length : Int) := of_decide_eq_true (by first | (with_reducible assumption) | assumption)
                  obtain ⟨ad349, e349, hx349_0⟩ := Kd.at_string (Kd.R_reads' HO_24.out).2.2 x26_1 p349 q349
                  cases e349
                  replace p349 := eq_true p349
                  replace q349 := eq_true q349
                  go_wp2_with (first | ((with_reducible refine gate_callee (f := 8) rfl ?_); refine goesL_ (some 32) rfl rfl Try.func8 (by kernel_rfl) rfl #[.string (rdOf ByteArray.empty t346 x26_1)] rfl (by (try simp only [List.map_toArray, List.map_cons, List.map_nil]); first | done | rfl | (simp only [List.length_drop, List.length_take]; rfl)) ?_; (with_reducible refine (itip_User.calls k1 (rdOf ByteArray.empty t346 x26_1) t350 t351 _ A24.out).mono ?_); rintro e w30 ⟨rfl, hb⟩; refine ⟨_, rfl, ?_⟩; have n0_ := Aside0.mk (Kd.R_below (by (with_reducible repeat (first | apply Kd.R_alloc | apply Kd.R_drewN | apply Kd.R_drew)); exact HO_24.out) hb); have n1_ := Aside0.mk (Kd.V_below (by (with_reducible repeat (first | apply Kd.V_alloc | apply Kd.V_drewN | apply Kd.V_drew)); exact HO_346001.out) hb); have n2_ := Aside0.mk (Kd.N_below (by (with_reducible repeat (first | apply Kd.N_alloc | apply Kd.N_drewN | apply Kd.N_drew)); exact HO_346002.out) hb); have n3_ := Aside0.mk (blk_below (g := gb335) (o := .cells #[.string a0_0, .slice A0_1 l0_1.length c0_1, .slice A0_2 l0_2.length c0_2] 25 (0, 0)) (by (with_reducible repeat (first | refine blk_drewN ?_ _ | refine blk_drew ?_ | refine blk_alloc ?_ _)); exact BK335.out) hb); have n4_ := Aside0.mk (blk_below (g := gb345) (o := .cells #[.string t338, .slice Ao16 t339.length co16, .slice Ao17 t342.length co17] 25 (0, 0)) (by (with_reducible repeat (first | refine blk_drewN ?_ _ | refine blk_drew ?_ | refine blk_alloc ?_ _)); exact BK345.out) hb); have n5_ := Aside0.mk (below_step (by repeat (first | (with_reducible first | exact HB.out | apply below_alloc | apply pw_below_drewN | apply below_drew1 | refine below_set ?_ GE335.out | refine below_set ?_ GE345.out) | exact HB.out)) hb); clear HO_24; clear HO_346001; clear HO_346002; clear BK335; clear BK345; clear HB; have HO_24 := n0_; have HO_346001 := n1_; have HO_346002 := n2_; have BK335 := n3_; have BK345 := n4_; have HB := n5_; clear n0_ n1_ n2_ n3_ n4_ n5_; (try clear hb); (try clear hb2); (try clear hk); (try clear hi)) | ((with_reducible refine gate_callee (f := 8) rfl ?_); refine goesL_ (some 37) rfl rfl Try.func8 (by kernel_rfl) rfl #[.string a1] rfl (by (try simp only [List.map_toArray, List.map_cons, List.map_nil]); first | done | rfl | (simp only [List.length_drop, List.length_take]; rfl)) ?_; (with_reducible refine (itip_User.calls k1 a1 t352 t353 _ A25.out).mono ?_); rintro e w31 ⟨rfl, hb⟩; refine ⟨_, rfl, ?_⟩; have n0_ := Aside0.mk (Kd.R_below (by (with_reducible repeat (first | apply Kd.R_alloc | apply Kd.R_drewN | apply Kd.R_drew)); exact HO_24.out) hb); have n1_ := Aside0.mk (Kd.V_below (by (with_reducible repeat (first | apply Kd.V_alloc | apply Kd.V_drewN | apply Kd.V_drew)); exact HO_346001.out) hb); have n2_ := Aside0.mk (Kd.N_below (by (with_reducible repeat (first | apply Kd.N_alloc | apply Kd.N_drewN | apply Kd.N_drew)); exact HO_346002.out) hb); have n3_ := Aside0.mk (blk_below (g := gb335) (o := .cells #[.string a0_0, .slice A0_1 l0_1.length c0_1, .slice A0_2 l0_2.length c0_2] 25 (0, 0)) (by (with_reducible repeat (first | refine blk_drewN ?_ _ | refine blk_drew ?_ | refine blk_alloc ?_ _)); exact BK335.out) hb); have n4_ := Aside0.mk (blk_below (g := gb345) (o := .cells #[.string t338, .slice Ao16 t339.length co16, .slice Ao17 t342.length co17] 25 (0, 0)) (by (with_reducible repeat (first | refine blk_drewN ?_ _ | refine blk_drew ?_ | refine blk_alloc ?_ _)); exact BK345.out) hb); have n5_ := Aside0.mk (below_step (by repeat (first | (with_reducible first | exact HB.out | apply below_alloc | apply pw_below_drewN | apply below_drew1 | refine below_set ?_ GE335.out | refine below_set ?_ GE345.out) | exact HB.out)) hb); clear HO_24; clear HO_346001; clear HO_346002; clear BK335; clear BK345; clear HB; have HO_24 := n0_; have HO_346001 := n1_; have HO_346002 := n2_; have BK335 := n3_; have BK345 := n4_; have HB := n5_; clear n0_ n1_ n2_ n3_ n4_ n5_; (try clear hb); (try clear hb2); (try clear hk); (try clear hi)))
                  go_roundg k1
                  case measure => have := HK1.out; omega
                  case rel => exact ⟨(true), (wrap64 (x26_1 + 1)), (by first | rfl | (simp; done) | (simp [*]; done)), (by first | rfl | (simp; done) | (simp [*]; done)), H', ⟨by have := HK1.out; omega⟩, ⟨by (with_reducible repeat (first | apply Kd.R_alloc | apply Kd.R_drewN | apply Kd.R_drew)); exact HO_24.out⟩, ⟨by (with_reducible repeat (first | apply Kd.V_alloc | apply Kd.V_drewN | apply Kd.V_drew)); exact HO_346001.out⟩, ⟨by (with_reducible repeat (first | apply Kd.N_alloc | apply Kd.N_drewN | apply Kd.N_drew)); exact HO_346002.out⟩, ⟨by (with_reducible repeat (first | refine blk_drewN ?_ _ | refine blk_drew ?_ | refine blk_alloc ?_ _)); exact BK335.out⟩, ⟨by (with_reducible repeat (first | refine blk_drewN ?_ _ | refine blk_drew ?_ | refine blk_alloc ?_ _)); exact BK345.out⟩, ⟨by repeat (first | (with_reducible first | exact HB.out | apply below_alloc | apply pw_below_drewN | apply below_drew1 | refine below_set ?_ GE335.out | refine below_set ?_ GE345.out) | exact HB.out)⟩⟩
                · rw [if_neg c29] at H
                  have c29b0 : ((rdOf ByteArray.empty t346 x26_1).toList == a1.toList) = false := beq_eq_false_iff_ne.mpr c29
                  have c29b1 : ((rdOf ByteArray.empty t346 x26_1).toList != a1.toList) = true := bne_iff_ne.mpr c29
                  by_cases c32 : t351 = true
                  · subst c32
                    have H1 : (if t353 = true then (almanaclaw26_ItipKeeps.l0 k1 a1 a2 (t350.toList == t352.toList) t346 (t346.length : Int) (wrap64 (x26_1 + 1)) a0_0 l0_1 l0_2 t338 t339 t342) else (almanaclaw26_ItipKeeps.l0 k1 a1 a2 false t346 (t346.length : Int) (wrap64 (x26_1 + 1)) a0_0 l0_1 l0_2 t338 t339 t342)) = some r := by rw [if_pos rfl] at H; exact H
                    clear H
                    have H := H1
                    clear H1
                    by_cases c33 : t353 = true
                    · subst c33
                      have H1 : (almanaclaw26_ItipKeeps.l0 k1 a1 a2 (t350.toList == t352.toList) t346 (t346.length : Int) (wrap64 (x26_1 + 1)) a0_0 l0_1 l0_2 t338 t339 t342) = some r := by rw [if_pos rfl] at H; exact H
                      clear H
                      have H := H1
                      clear H1
                      have H' := Aside0.mk H
                      clear H
                      have p349 : 0 ≤ (x26_1 : Int) := of_decide_eq_true (by first | (with_reducible assumption) | assumption)
                      have q349 : x26_1 < (t346.length : Int) := of_decide_eq_true (by first | (with_reducible assumption) | assumption)
                      obtain ⟨ad349, e349, hx349_0⟩ := Kd.at_string (Kd.R_reads' HO_24.out).2.2 x26_1 p349 q349
                      cases e349
                      replace p349 := eq_true p349
                      replace q349 := eq_true q349
                      go_wp2_with (first | ((with_reducible refine gate_callee (f := 8) rfl ?_); refine goesL_ (some 32) rfl rfl Try.func8 (by kernel_rfl) rfl #[.string (rdOf ByteArray.empty t346 x26_1)] rfl (by (try simp only [List.map_toArray, List.map_cons, List.map_nil]); first | done | rfl | (simp only [List.length_drop, List.length_take]; rfl)) ?_; (with_reducible refine (itip_User.calls k1 (rdOf ByteArray.empty t346 x26_1) t350 true _ A24.out).mono ?_); rintro e w34 ⟨rfl, hb⟩; refine ⟨_, rfl, ?_⟩; have n0_ := Aside0.mk (Kd.R_below (by (with_reducible repeat (first | apply Kd.R_alloc | apply Kd.R_drewN | apply Kd.R_drew)); exact HO_24.out) hb); have n1_ := Aside0.mk (Kd.V_below (by (with_reducible repeat (first | apply Kd.V_alloc | apply Kd.V_drewN | apply Kd.V_drew)); exact HO_346001.out) hb); have n2_ := Aside0.mk (Kd.N_below (by (with_reducible repeat (first | apply Kd.N_alloc | apply Kd.N_drewN | apply Kd.N_drew)); exact HO_346002.out) hb); have n3_ := Aside0.mk (blk_below (g := gb335) (o := .cells #[.string a0_0, .slice A0_1 l0_1.length c0_1, .slice A0_2 l0_2.length c0_2] 25 (0, 0)) (by (with_reducible repeat (first | refine blk_drewN ?_ _ | refine blk_drew ?_ | refine blk_alloc ?_ _)); exact BK335.out) hb); have n4_ := Aside0.mk (blk_below (g := gb345) (o := .cells #[.string t338, .slice Ao16 t339.length co16, .slice Ao17 t342.length co17] 25 (0, 0)) (by (with_reducible repeat (first | refine blk_drewN ?_ _ | refine blk_drew ?_ | refine blk_alloc ?_ _)); exact BK345.out) hb); have n5_ := Aside0.mk (below_step (by repeat (first | (with_reducible first | exact HB.out | apply below_alloc | apply pw_below_drewN | apply below_drew1 | refine below_set ?_ GE335.out | refine below_set ?_ GE345.out) | exact HB.out)) hb); clear HO_24; clear HO_346001; clear HO_346002; clear BK335; clear BK345; clear HB; have HO_24 := n0_; have HO_346001 := n1_; have HO_346002 := n2_; have BK335 := n3_; have BK345 := n4_; have HB := n5_; clear n0_ n1_ n2_ n3_ n4_ n5_; (try clear hb); (try clear hb2); (try clear hk); (try clear hi)) | ((with_reducible refine gate_callee (f := 8) rfl ?_); refine goesL_ (some 37) rfl rfl Try.func8 (by kernel_rfl) rfl #[.string a1] rfl (by (try simp only [List.map_toArray, List.map_cons, List.map_nil]); first | done | rfl | (simp only [List.length_drop, List.length_take]; rfl)) ?_; (with_reducible refine (itip_User.calls k1 a1 t352 true _ A25.out).mono ?_); rintro e w35 ⟨rfl, hb⟩; refine ⟨_, rfl, ?_⟩; have n0_ := Aside0.mk (Kd.R_below (by (with_reducible repeat (first | apply Kd.R_alloc | apply Kd.R_drewN | apply Kd.R_drew)); exact HO_24.out) hb); have n1_ := Aside0.mk (Kd.V_below (by (with_reducible repeat (first | apply Kd.V_alloc | apply Kd.V_drewN | apply Kd.V_drew)); exact HO_346001.out) hb); have n2_ := Aside0.mk (Kd.N_below (by (with_reducible repeat (first | apply Kd.N_alloc | apply Kd.N_drewN | apply Kd.N_drew)); exact HO_346002.out) hb); have n3_ := Aside0.mk (blk_below (g := gb335) (o := .cells #[.string a0_0, .slice A0_1 l0_1.length c0_1, .slice A0_2 l0_2.length c0_2] 25 (0, 0)) (by (with_reducible repeat (first | refine blk_drewN ?_ _ | refine blk_drew ?_ | refine blk_alloc ?_ _)); exact BK335.out) hb); have n4_ := Aside0.mk (blk_below (g := gb345) (o := .cells #[.string t338, .slice Ao16 t339.length co16, .slice Ao17 t342.length co17] 25 (0, 0)) (by (with_reducible repeat (first | refine blk_drewN ?_ _ | refine blk_drew ?_ | refine blk_alloc ?_ _)); exact BK345.out) hb); have n5_ := Aside0.mk (below_step (by repeat (first | (with_reducible first | exact HB.out | apply below_alloc | apply pw_below_drewN | apply below_drew1 | refine below_set ?_ GE335.out | refine below_set ?_ GE345.out) | exact HB.out)) hb); clear HO_24; clear HO_346001; clear HO_346002; clear BK335; clear BK345; clear HB; have HO_24 := n0_; have HO_346001 := n1_; have HO_346002 := n2_; have BK335 := n3_; have BK345 := n4_; have HB := n5_; clear n0_ n1_ n2_ n3_ n4_ n5_; (try clear hb); (try clear hb2); (try clear hk); (try clear hi)))
                      go_roundg k1
                      case measure => have := HK1.out; omega
                      case rel => exact ⟨((t350.toList == t352.toList)), (wrap64 (x26_1 + 1)), (by first | rfl | (simp; done) | (simp [*]; done)), (by first | rfl | (simp; done) | (simp [*]; done)), H', ⟨by have := HK1.out; omega⟩, ⟨by (with_reducible repeat (first | apply Kd.R_alloc | apply Kd.R_drewN | apply Kd.R_drew)); exact HO_24.out⟩, ⟨by (with_reducible repeat (first | apply Kd.V_alloc | apply Kd.V_drewN | apply Kd.V_drew)); exact HO_346001.out⟩, ⟨by (with_reducible repeat (first | apply Kd.N_alloc | apply Kd.N_drewN | apply Kd.N_drew)); exact HO_346002.out⟩, ⟨by (with_reducible repeat (first | refine blk_drewN ?_ _ | refine blk_drew ?_ | refine blk_alloc ?_ _)); exact BK335.out⟩, ⟨by (with_reducible repeat (first | refine blk_drewN ?_ _ | refine blk_drew ?_ | refine blk_alloc ?_ _)); exact BK345.out⟩, ⟨by repeat (first | (with_reducible first | exact HB.out | apply below_alloc | apply pw_below_drewN | apply below_drew1 | refine below_set ?_ GE335.out | refine below_set ?_ GE345.out) | exact HB.out)⟩⟩
                    · replace c33 := Bool.eq_false_iff.mpr c33
                      subst c33
                      have H1 : (almanaclaw26_ItipKeeps.l0 k1 a1 a2 false t346 (t346.length : Int) (wrap64 (x26_1 + 1)) a0_0 l0_1 l0_2 t338 t339 t342) = some r := by rw [if_neg (show ¬ (false = true) by decide)] at H; exact H
                      clear H
                      have H := H1
                      clear H1
                      have H' := Aside0.mk H
                      clear H
                      have p349 : 0 ≤ (x26_1 : Int) := of_decide_eq_true (by first | (with_reducible assumption) | assumption)
                      have q349 : x26_1 < (t346.length : Int) := of_decide_eq_true (by first | (with_reducible assumption) | assumption)
                      obtain ⟨ad349, e349, hx349_0⟩ := Kd.at_string (Kd.R_reads' HO_24.out).2.2 x26_1 p349 q349
                      cases e349
                      replace p349 := eq_true p349
                      replace q349 := eq_true q349
                      go_wp2_with (first | ((with_reducible refine gate_callee (f := 8) rfl ?_); refine goesL_ (some 32) rfl rfl Try.func8 (by kernel_rfl) rfl #[.string (rdOf ByteArray.empty t346 x26_1)] rfl (by (try simp only [List.map_toArray, List.map_cons, List.map_nil]); first | done | rfl | (simp only [List.length_drop, List.length_take]; rfl)) ?_; (with_reducible refine (itip_User.calls k1 (rdOf ByteArray.empty t346 x26_1) t350 true _ A24.out).mono ?_); rintro e w36 ⟨rfl, hb⟩; refine ⟨_, rfl, ?_⟩; have n0_ := Aside0.mk (Kd.R_below (by (with_reducible repeat (first | apply Kd.R_alloc | apply Kd.R_drewN | apply Kd.R_drew)); exact HO_24.out) hb); have n1_ := Aside0.mk (Kd.V_below (by (with_reducible repeat (first | apply Kd.V_alloc | apply Kd.V_drewN | apply Kd.V_drew)); exact HO_346001.out) hb); have n2_ := Aside0.mk (Kd.N_below (by (with_reducible repeat (first | apply Kd.N_alloc | apply Kd.N_drewN | apply Kd.N_drew)); exact HO_346002.out) hb); have n3_ := Aside0.mk (blk_below (g := gb335) (o := .cells #[.string a0_0, .slice A0_1 l0_1.length c0_1, .slice A0_2 l0_2.length c0_2] 25 (0, 0)) (by (with_reducible repeat (first | refine blk_drewN ?_ _ | refine blk_drew ?_ | refine blk_alloc ?_ _)); exact BK335.out) hb); have n4_ := Aside0.mk (blk_below (g := gb345) (o := .cells #[.string t338, .slice Ao16 t339.length co16, .slice Ao17 t342.length co17] 25 (0, 0)) (by (with_reducible repeat (first | refine blk_drewN ?_ _ | refine blk_drew ?_ | refine blk_alloc ?_ _)); exact BK345.out) hb); have n5_ := Aside0.mk (below_step (by repeat (first | (with_reducible first | exact HB.out | apply below_alloc | apply pw_below_drewN | apply below_drew1 | refine below_set ?_ GE335.out | refine below_set ?_ GE345.out) | exact HB.out)) hb); clear HO_24; clear HO_346001; clear HO_346002; clear BK335; clear BK345; clear HB; have HO_24 := n0_; have HO_346001 := n1_; have HO_346002 := n2_; have BK335 := n3_; have BK345 := n4_; have HB := n5_; clear n0_ n1_ n2_ n3_ n4_ n5_; (try clear hb); (try clear hb2); (try clear hk); (try clear hi)) | ((with_reducible refine gate_callee (f := 8) rfl ?_); refine goesL_ (some 37) rfl rfl Try.func8 (by kernel_rfl) rfl #[.string a1] rfl (by (try simp only [List.map_toArray, List.map_cons, List.map_nil]); first | done | rfl | (simp only [List.length_drop, List.length_take]; rfl)) ?_; (with_reducible refine (itip_User.calls k1 a1 t352 false _ A25.out).mono ?_); rintro e w37 ⟨rfl, hb⟩; refine ⟨_, rfl, ?_⟩; have n0_ := Aside0.mk (Kd.R_below (by (with_reducible repeat (first | apply Kd.R_alloc | apply Kd.R_drewN | apply Kd.R_drew)); exact HO_24.out) hb); have n1_ := Aside0.mk (Kd.V_below (by (with_reducible repeat (first | apply Kd.V_alloc | apply Kd.V_drewN | apply Kd.V_drew)); exact HO_346001.out) hb); have n2_ := Aside0.mk (Kd.N_below (by (with_reducible repeat (first | apply Kd.N_alloc | apply Kd.N_drewN | apply Kd.N_drew)); exact HO_346002.out) hb); have n3_ := Aside0.mk (blk_below (g := gb335) (o := .cells #[.string a0_0, .slice A0_1 l0_1.length c0_1, .slice A0_2 l0_2.length c0_2] 25 (0, 0)) (by (with_reducible repeat (first | refine blk_drewN ?_ _ | refine blk_drew ?_ | refine blk_alloc ?_ _)); exact BK335.out) hb); have n4_ := Aside0.mk (blk_below (g := gb345) (o := .cells #[.string t338, .slice Ao16 t339.length co16, .slice Ao17 t342.length co17] 25 (0, 0)) (by (with_reducible repeat (first | refine blk_drewN ?_ _ | refine blk_drew ?_ | refine blk_alloc ?_ _)); exact BK345.out) hb); have n5_ := Aside0.mk (below_step (by repeat (first | (with_reducible first | exact HB.out | apply below_alloc | apply pw_below_drewN | apply below_drew1 | refine below_set ?_ GE335.out | refine below_set ?_ GE345.out) | exact HB.out)) hb); clear HO_24; clear HO_346001; clear HO_346002; clear BK335; clear BK345; clear HB; have HO_24 := n0_; have HO_346001 := n1_; have HO_346002 := n2_; have BK335 := n3_; have BK345 := n4_; have HB := n5_; clear n0_ n1_ n2_ n3_ n4_ n5_; (try clear hb); (try clear hb2); (try clear hk); (try clear hi)))
                      go_roundg k1
                      case measure => have := HK1.out; omega
                      case rel => exact ⟨(false), (wrap64 (x26_1 + 1)), (by first | rfl | (simp; done) | (simp [*]; done)), (by first | rfl | (simp; done) | (simp [*]; done)), H', ⟨by have := HK1.out; omega⟩, ⟨by (with_reducible repeat (first | apply Kd.R_alloc | apply Kd.R_drewN | apply Kd.R_drew)); exact HO_24.out⟩, ⟨by (with_reducible repeat (first | apply Kd.V_alloc | apply Kd.V_drewN | apply Kd.V_drew)); exact HO_346001.out⟩, ⟨by (with_reducible repeat (first | apply Kd.N_alloc | apply Kd.N_drewN | apply Kd.N_drew)); exact HO_346002.out⟩, ⟨by (with_reducible repeat (first | refine blk_drewN ?_ _ | refine blk_drew ?_ | refine blk_alloc ?_ _)); exact BK335.out⟩, ⟨by (with_reducible repeat (first | refine blk_drewN ?_ _ | refine blk_drew ?_ | refine blk_alloc ?_ _)); exact BK345.out⟩, ⟨by repeat (first | (with_reducible first | exact HB.out | apply below_alloc | apply pw_below_drewN | apply below_drew1 | refine below_set ?_ GE335.out | refine below_set ?_ GE345.out) | exact HB.out)⟩⟩
                  · replace c32 := Bool.eq_false_iff.mpr c32
                    subst c32
                    have H1 : (almanaclaw26_ItipKeeps.l0 k1 a1 a2 false t346 (t346.length : Int) (wrap64 (x26_1 + 1)) a0_0 l0_1 l0_2 t338 t339 t342) = some r := by rw [if_neg (show ¬ (false = true) by decide)] at H; exact H
                    clear H
                    have H := H1
                    clear H1
                    have H' := Aside0.mk H
                    clear H
                    have p349 : 0 ≤ (x26_1 : Int) := of_decide_eq_true (by first | (with_reducible assumption) | assumption)
                    have q349 : x26_1 < (t346.length : Int) := of_decide_eq_true (by first | (with_reducible assumption) | assumption)
                    obtain ⟨ad349, e349, hx349_0⟩ := Kd.at_string (Kd.R_reads' HO_24.out).2.2 x26_1 p349 q349
                    cases e349
                    replace p349 := eq_true p349
                    replace q349 := eq_true q349
                    go_wp2_with (first | ((with_reducible refine gate_callee (f := 8) rfl ?_); refine goesL_ (some 32) rfl rfl Try.func8 (by kernel_rfl) rfl #[.string (rdOf ByteArray.empty t346 x26_1)] rfl (by (try simp only [List.map_toArray, List.map_cons, List.map_nil]); first | done | rfl | (simp only [List.length_drop, List.length_take]; rfl)) ?_; (with_reducible refine (itip_User.calls k1 (rdOf ByteArray.empty t346 x26_1) t350 false _ A24.out).mono ?_); rintro e w38 ⟨rfl, hb⟩; refine ⟨_, rfl, ?_⟩; have n0_ := Aside0.mk (Kd.R_below (by (with_reducible repeat (first | apply Kd.R_alloc | apply Kd.R_drewN | apply Kd.R_drew)); exact HO_24.out) hb); have n1_ := Aside0.mk (Kd.V_below (by (with_reducible repeat (first | apply Kd.V_alloc | apply Kd.V_drewN | apply Kd.V_drew)); exact HO_346001.out) hb); have n2_ := Aside0.mk (Kd.N_below (by (with_reducible repeat (first | apply Kd.N_alloc | apply Kd.N_drewN | apply Kd.N_drew)); exact HO_346002.out) hb); have n3_ := Aside0.mk (blk_below (g := gb335) (o := .cells #[.string a0_0, .slice A0_1 l0_1.length c0_1, .slice A0_2 l0_2.length c0_2] 25 (0, 0)) (by (with_reducible repeat (first | refine blk_drewN ?_ _ | refine blk_drew ?_ | refine blk_alloc ?_ _)); exact BK335.out) hb); have n4_ := Aside0.mk (blk_below (g := gb345) (o := .cells #[.string t338, .slice Ao16 t339.length co16, .slice Ao17 t342.length co17] 25 (0, 0)) (by (with_reducible repeat (first | refine blk_drewN ?_ _ | refine blk_drew ?_ | refine blk_alloc ?_ _)); exact BK345.out) hb); have n5_ := Aside0.mk (below_step (by repeat (first | (with_reducible first | exact HB.out | apply below_alloc | apply pw_below_drewN | apply below_drew1 | refine below_set ?_ GE335.out | refine below_set ?_ GE345.out) | exact HB.out)) hb); clear HO_24; clear HO_346001; clear HO_346002; clear BK335; clear BK345; clear HB; have HO_24 := n0_; have HO_346001 := n1_; have HO_346002 := n2_; have BK335 := n3_; have BK345 := n4_; have HB := n5_; clear n0_ n1_ n2_ n3_ n4_ n5_; (try clear hb); (try clear hb2); (try clear hk); (try clear hi)) | ((with_reducible refine gate_callee (f := 8) rfl ?_); refine goesL_ (some 37) rfl rfl Try.func8 (by kernel_rfl) rfl #[.string a1] rfl (by (try simp only [List.map_toArray, List.map_cons, List.map_nil]); first | done | rfl | (simp only [List.length_drop, List.length_take]; rfl)) ?_; (with_reducible refine (itip_User.calls k1 a1 t352 t353 _ A25.out).mono ?_); rintro e w39 ⟨rfl, hb⟩; refine ⟨_, rfl, ?_⟩; have n0_ := Aside0.mk (Kd.R_below (by (with_reducible repeat (first | apply Kd.R_alloc | apply Kd.R_drewN | apply Kd.R_drew)); exact HO_24.out) hb); have n1_ := Aside0.mk (Kd.V_below (by (with_reducible repeat (first | apply Kd.V_alloc | apply Kd.V_drewN | apply Kd.V_drew)); exact HO_346001.out) hb); have n2_ := Aside0.mk (Kd.N_below (by (with_reducible repeat (first | apply Kd.N_alloc | apply Kd.N_drewN | apply Kd.N_drew)); exact HO_346002.out) hb); have n3_ := Aside0.mk (blk_below (g := gb335) (o := .cells #[.string a0_0, .slice A0_1 l0_1.length c0_1, .slice A0_2 l0_2.length c0_2] 25 (0, 0)) (by (with_reducible repeat (first | refine blk_drewN ?_ _ | refine blk_drew ?_ | refine blk_alloc ?_ _)); exact BK335.out) hb); have n4_ := Aside0.mk (blk_below (g := gb345) (o := .cells #[.string t338, .slice Ao16 t339.length co16, .slice Ao17 t342.length co17] 25 (0, 0)) (by (with_reducible repeat (first | refine blk_drewN ?_ _ | refine blk_drew ?_ | refine blk_alloc ?_ _)); exact BK345.out) hb); have n5_ := Aside0.mk (below_step (by repeat (first | (with_reducible first | exact HB.out | apply below_alloc | apply pw_below_drewN | apply below_drew1 | refine below_set ?_ GE335.out | refine below_set ?_ GE345.out) | exact HB.out)) hb); clear HO_24; clear HO_346001; clear HO_346002; clear BK335; clear BK345; clear HB; have HO_24 := n0_; have HO_346001 := n1_; have HO_346002 := n2_; have BK335 := n3_; have BK345 := n4_; have HB := n5_; clear n0_ n1_ n2_ n3_ n4_ n5_; (try clear hb); (try clear hb2); (try clear hk); (try clear hi)))
                    go_roundg k1
                    case measure => have := HK1.out; omega
                    case rel => exact ⟨(false), (wrap64 (x26_1 + 1)), (by first | rfl | (simp; done) | (simp [*]; done)), (by first | rfl | (simp; done) | (simp [*]; done)), H', ⟨by have := HK1.out; omega⟩, ⟨by (with_reducible repeat (first | apply Kd.R_alloc | apply Kd.R_drewN | apply Kd.R_drew)); exact HO_24.out⟩, ⟨by (with_reducible repeat (first | apply Kd.V_alloc | apply Kd.V_drewN | apply Kd.V_drew)); exact HO_346001.out⟩, ⟨by (with_reducible repeat (first | apply Kd.N_alloc | apply Kd.N_drewN | apply Kd.N_drew)); exact HO_346002.out⟩, ⟨by (with_reducible repeat (first | refine blk_drewN ?_ _ | refine blk_drew ?_ | refine blk_alloc ?_ _)); exact BK335.out⟩, ⟨by (with_reducible repeat (first | refine blk_drewN ?_ _ | refine blk_drew ?_ | refine blk_alloc ?_ _)); exact BK345.out⟩, ⟨by repeat (first | (with_reducible first | exact HB.out | apply below_alloc | apply pw_below_drewN | apply below_drew1 | refine below_set ?_ GE335.out | refine below_set ?_ GE345.out) | exact HB.out)⟩⟩
            · rw [if_neg c23] at H
              exact absurd H (by simp)
          · rw [if_neg c22] at H
            exact absurd H (by simp)
        · rw [if_neg c21] at H
          have c21b0 : decide (x26_1 < (t346.length : Int)) = false := decide_eq_false c21
          clear c21
          have HC40 := Aside0.mk H
          clear H
          go_upto_region 12 with (fail)
          go_cut [76] (fun v76 wc => ∃ (kq : Nat) (x76_39 : Bool), v76 = .bool x76_39 ∧ Aside0 (almanaclaw26_ItipKeeps.j1 kq a1 x76_39 a0_0 l0_1 l0_2 t338 t339 t342 = some r) ∧ Aside0 (kq ≤ k1) ∧ Aside0 (Kd.V k45 45 wc w.heap.size (fun k_ => some k_ ≠ ((.slice Ao17 t342.length co17) : Value).ownBlock ∧ k_ ≠ gb335 ∧ k_ ≠ gb345) (.slice Ao16 t339.length co16) t339) ∧ Aside0 (Kd.N k25 25 wc w.heap.size (fun k_ => k_ ≠ gb335 ∧ k_ ≠ gb345) (.slice Ao17 t342.length co17) t342) ∧ Aside0 (wc.heap[gb335]? = some (.cells #[.string a0_0, (.slice A0_1 l0_1.length c0_1), (.slice A0_2 l0_2.length c0_2)] 25 (0, 0))) ∧ Aside0 (wc.heap[gb345]? = some (.cells #[.string t338, (.slice Ao16 t339.length co16), (.slice Ao17 t342.length co17)] 25 (0, 0))) ∧ Aside0 (Below w.heap.size w wc))
          case first =>
            have H := HC40.out
            clear HC40
            by_cases c41 : x8_1 = true
            · subst c41
              have H1 : ((itip_Status.f k1 t338 t339 t342 a1).bind fun t354 => ((almanacref08_Upper.f a2).bind fun t355 => (if t354.toList = t355.toList then (almanaclaw26_ItipKeeps.j1 k1 a1 false a0_0 l0_1 l0_2 t338 t339 t342) else (almanaclaw26_ItipKeeps.j1 k1 a1 true a0_0 l0_1 l0_2 t338 t339 t342)))) = some r := by rw [if_pos rfl] at H; exact H
              clear H
              have H := H1
              clear H1
              replace H := Option.bind_eq_some_iff.mp H
              obtain ⟨t354, A420, H⟩ := H
              replace H : ((almanacref08_Upper.f a2).bind fun t355 => (if t354.toList = t355.toList then (almanaclaw26_ItipKeeps.j1 k1 a1 false a0_0 l0_1 l0_2 t338 t339 t342) else (almanaclaw26_ItipKeeps.j1 k1 a1 true a0_0 l0_1 l0_2 t338 t339 t342))) = some r := H
              have A42 := Aside0.mk A420
              clear A420
              replace H := Option.bind_eq_some_iff.mp H
              obtain ⟨t355, A430, H⟩ := H
              replace H : (if t354.toList = t355.toList then (almanaclaw26_ItipKeeps.j1 k1 a1 false a0_0 l0_1 l0_2 t338 t339 t342) else (almanaclaw26_ItipKeeps.j1 k1 a1 true a0_0 l0_1 l0_2 t338 t339 t342)) = some r := H
              have A43 := Aside0.mk A430
              clear A430
              by_cases c44 : t354.toList = t355.toList
              · rw [if_pos c44] at H
                have c44b0 : (t354.toList == t355.toList) = true := beq_iff_eq.mpr c44
                have c44b1 : (t354.toList != t355.toList) = false := bne_eq_false_iff_eq.mpr c44
                clear c44
                (first | rw [c44b0] | (simp only [i64_w, i32_w]; rw [c44b0]) | skip)
                have H' := Aside0.mk H
                clear H
                have hnb45 := NB345_335.out
                have hnc45 := NB335_345.out
                have hcz46_0 : wr.cell? ⟨gb345, 0, none⟩ = some (.string t338) := (blk_cell BK345.out 0).trans rfl
                have hcz46_1 : wr.cell? ⟨gb345, 1, none⟩ = some (.slice Ao16 t339.length co16) := (blk_cell BK345.out 1).trans rfl
                have hcz46_2 : wr.cell? ⟨gb345, 2, none⟩ = some (.slice Ao17 t342.length co17) := (blk_cell BK345.out 2).trans rfl
                have hfz46_0 := blk_frozen BK345.out 0
                have hfz46_1 := blk_frozen BK345.out 1
                have hfz46_2 := blk_frozen BK345.out 2
                go_wp2_with (first | (go_at_call 20; (with_reducible refine (itip_Status.calls k1 t338 _ _ t339 _ _ t342 a1 t354 _ ?side1 ?side2 ?side3 ?side4 A42.out).mono ?_); (case side1 => repeat (first | exact (Kd.V_reads' HO_346001.out).2.2 | (with_reducible refine Kd.C_alloc ?_ _) | (with_reducible refine Kd.C_drewN ?_ _) | (with_reducible refine Kd.C_drew ?_))); (case side2 => exact (Kd.V_reads' HO_346001.out).2.1); (case side3 => repeat (first | exact (Kd.N_reads' HO_346002.out).2.2 | (with_reducible refine Kd.C_alloc ?_ _) | (with_reducible refine Kd.C_drewN ?_ _) | (with_reducible refine Kd.C_drew ?_))); (case side4 => exact (Kd.N_reads' HO_346002.out).2.1); rintro e w47 ⟨rfl, hb⟩; have n0_ := Aside0.mk (Kd.R_below (by (with_reducible repeat (first | apply Kd.R_alloc | apply Kd.R_drewN | apply Kd.R_drew)); exact HO_24.out) hb); have n1_ := Aside0.mk (Kd.V_below (by (with_reducible repeat (first | apply Kd.V_alloc | apply Kd.V_drewN | apply Kd.V_drew)); exact HO_346001.out) hb); have n2_ := Aside0.mk (Kd.N_below (by (with_reducible repeat (first | apply Kd.N_alloc | apply Kd.N_drewN | apply Kd.N_drew)); exact HO_346002.out) hb); have n3_ := Aside0.mk (blk_below (g := gb335) (o := .cells #[.string a0_0, .slice A0_1 l0_1.length c0_1, .slice A0_2 l0_2.length c0_2] 25 (0, 0)) (by (with_reducible repeat (first | refine blk_drewN ?_ _ | refine blk_drew ?_ | refine blk_alloc ?_ _)); exact BK335.out) hb); have n4_ := Aside0.mk (blk_below (g := gb345) (o := .cells #[.string t338, .slice Ao16 t339.length co16, .slice Ao17 t342.length co17] 25 (0, 0)) (by (with_reducible repeat (first | refine blk_drewN ?_ _ | refine blk_drew ?_ | refine blk_alloc ?_ _)); exact BK345.out) hb); have n5_ := Aside0.mk (below_step (by repeat (first | (with_reducible first | exact HB.out | apply below_alloc | apply pw_below_drewN | apply below_drew1 | refine below_set ?_ GE335.out | refine below_set ?_ GE345.out) | exact HB.out)) hb); clear HO_24; clear HO_346001; clear HO_346002; clear BK335; clear BK345; clear HB; have HO_24 := n0_; have HO_346001 := n1_; have HO_346002 := n2_; have BK335 := n3_; have BK345 := n4_; have HB := n5_; clear n0_ n1_ n2_ n3_ n4_ n5_; (try clear hb); (try clear hb2); (try clear hk); (try clear hi)) | (go_at_call 21; (with_reducible refine (almanacref08_Upper.calls a2 t355 _ A43.out).mono ?_); rintro e w48 ⟨rfl, hb⟩; have n0_ := Aside0.mk (Kd.R_below (by (with_reducible repeat (first | apply Kd.R_alloc | apply Kd.R_drewN | apply Kd.R_drew)); exact HO_24.out) hb); have n1_ := Aside0.mk (Kd.V_below (by (with_reducible repeat (first | apply Kd.V_alloc | apply Kd.V_drewN | apply Kd.V_drew)); exact HO_346001.out) hb); have n2_ := Aside0.mk (Kd.N_below (by (with_reducible repeat (first | apply Kd.N_alloc | apply Kd.N_drewN | apply Kd.N_drew)); exact HO_346002.out) hb); have n3_ := Aside0.mk (blk_below (g := gb335) (o := .cells #[.string a0_0, .slice A0_1 l0_1.length c0_1, .slice A0_2 l0_2.length c0_2] 25 (0, 0)) (by (with_reducible repeat (first | refine blk_drewN ?_ _ | refine blk_drew ?_ | refine blk_alloc ?_ _)); exact BK335.out) hb); have n4_ := Aside0.mk (blk_below (g := gb345) (o := .cells #[.string t338, .slice Ao16 t339.length co16, .slice Ao17 t342.length co17] 25 (0, 0)) (by (with_reducible repeat (first | refine blk_drewN ?_ _ | refine blk_drew ?_ | refine blk_alloc ?_ _)); exact BK345.out) hb); have n5_ := Aside0.mk (below_step (by repeat (first | (with_reducible first | exact HB.out | apply below_alloc | apply pw_below_drewN | apply below_drew1 | refine below_set ?_ GE335.out | refine below_set ?_ GE345.out) | exact HB.out)) hb); clear HO_24; clear HO_346001; clear HO_346002; clear BK335; clear BK345; clear HB; have HO_24 := n0_; have HO_346001 := n1_; have HO_346002 := n2_; have BK335 := n3_; have BK345 := n4_; have HB := n5_; clear n0_ n1_ n2_ n3_ n4_ n5_; (try clear hb); (try clear hb2); (try clear hk); (try clear hi)))
                go_meet
                case rel => exact ⟨_, (false), (by first | rfl | (simp; done) | (simp [*]; done)), H', ⟨by have := HK1.out; first | omega | exact Nat.le_refl _⟩, ⟨by (with_reducible repeat (first | apply Kd.V_alloc | apply Kd.V_drewN | apply Kd.V_drew)); exact Kd.V_mono HO_346001.out (fun _ hk => ⟨hk.2.1, ⟨hk.2.2.1, hk.2.2.2⟩⟩)⟩, ⟨by (with_reducible repeat (first | apply Kd.N_alloc | apply Kd.N_drewN | apply Kd.N_drew)); exact Kd.N_mono HO_346002.out (fun _ hk => ⟨hk.2.1, hk.2.2⟩)⟩, ⟨by (with_reducible repeat (first | refine blk_drewN ?_ _ | refine blk_drew ?_ | refine blk_alloc ?_ _)); exact BK335.out⟩, ⟨by (with_reducible repeat (first | refine blk_drewN ?_ _ | refine blk_drew ?_ | refine blk_alloc ?_ _)); exact BK345.out⟩, ⟨by repeat (first | (with_reducible first | exact HB.out | apply below_alloc | apply pw_below_drewN | apply below_drew1 | refine below_set ?_ GE335.out | refine below_set ?_ GE345.out) | exact HB.out)⟩⟩
              · rw [if_neg c44] at H
                have c44b0 : (t354.toList == t355.toList) = false := beq_eq_false_iff_ne.mpr c44
                have c44b1 : (t354.toList != t355.toList) = true := bne_iff_ne.mpr c44
                (first | rw [c44b0] | (simp only [i64_w, i32_w]; rw [c44b0]) | skip)
                have H' := Aside0.mk H
                clear H
                have hnb49 := NB345_335.out
                have hnc49 := NB335_345.out
                have hcz50_0 : wr.cell? ⟨gb345, 0, none⟩ = some (.string t338) := (blk_cell BK345.out 0).trans rfl
                have hcz50_1 : wr.cell? ⟨gb345, 1, none⟩ = some (.slice Ao16 t339.length co16) := (blk_cell BK345.out 1).trans rfl
                have hcz50_2 : wr.cell? ⟨gb345, 2, none⟩ = some (.slice Ao17 t342.length co17) := (blk_cell BK345.out 2).trans rfl
                have hfz50_0 := blk_frozen BK345.out 0
                have hfz50_1 := blk_frozen BK345.out 1
                have hfz50_2 := blk_frozen BK345.out 2
                go_wp2_with (first | (go_at_call 20; (with_reducible refine (itip_Status.calls k1 t338 _ _ t339 _ _ t342 a1 t354 _ ?side1 ?side2 ?side3 ?side4 A42.out).mono ?_); (case side1 => repeat (first | exact (Kd.V_reads' HO_346001.out).2.2 | (with_reducible refine Kd.C_alloc ?_ _) | (with_reducible refine Kd.C_drewN ?_ _) | (with_reducible refine Kd.C_drew ?_))); (case side2 => exact (Kd.V_reads' HO_346001.out).2.1); (case side3 => repeat (first | exact (Kd.N_reads' HO_346002.out).2.2 | (with_reducible refine Kd.C_alloc ?_ _) | (with_reducible refine Kd.C_drewN ?_ _) | (with_reducible refine Kd.C_drew ?_))); (case side4 => exact (Kd.N_reads' HO_346002.out).2.1); rintro e w51 ⟨rfl, hb⟩; have n0_ := Aside0.mk (Kd.R_below (by (with_reducible repeat (first | apply Kd.R_alloc | apply Kd.R_drewN | apply Kd.R_drew)); exact HO_24.out) hb); have n1_ := Aside0.mk (Kd.V_below (by (with_reducible repeat (first | apply Kd.V_alloc | apply Kd.V_drewN | apply Kd.V_drew)); exact HO_346001.out) hb); have n2_ := Aside0.mk (Kd.N_below (by (with_reducible repeat (first | apply Kd.N_alloc | apply Kd.N_drewN | apply Kd.N_drew)); exact HO_346002.out) hb); have n3_ := Aside0.mk (blk_below (g := gb335) (o := .cells #[.string a0_0, .slice A0_1 l0_1.length c0_1, .slice A0_2 l0_2.length c0_2] 25 (0, 0)) (by (with_reducible repeat (first | refine blk_drewN ?_ _ | refine blk_drew ?_ | refine blk_alloc ?_ _)); exact BK335.out) hb); have n4_ := Aside0.mk (blk_below (g := gb345) (o := .cells #[.string t338, .slice Ao16 t339.length co16, .slice Ao17 t342.length co17] 25 (0, 0)) (by (with_reducible repeat (first | refine blk_drewN ?_ _ | refine blk_drew ?_ | refine blk_alloc ?_ _)); exact BK345.out) hb); have n5_ := Aside0.mk (below_step (by repeat (first | (with_reducible first | exact HB.out | apply below_alloc | apply pw_below_drewN | apply below_drew1 | refine below_set ?_ GE335.out | refine below_set ?_ GE345.out) | exact HB.out)) hb); clear HO_24; clear HO_346001; clear HO_346002; clear BK335; clear BK345; clear HB; have HO_24 := n0_; have HO_346001 := n1_; have HO_346002 := n2_; have BK335 := n3_; have BK345 := n4_; have HB := n5_; clear n0_ n1_ n2_ n3_ n4_ n5_; (try clear hb); (try clear hb2); (try clear hk); (try clear hi)) | (go_at_call 21; (with_reducible refine (almanacref08_Upper.calls a2 t355 _ A43.out).mono ?_); rintro e w52 ⟨rfl, hb⟩; have n0_ := Aside0.mk (Kd.R_below (by (with_reducible repeat (first | apply Kd.R_alloc | apply Kd.R_drewN | apply Kd.R_drew)); exact HO_24.out) hb); have n1_ := Aside0.mk (Kd.V_below (by (with_reducible repeat (first | apply Kd.V_alloc | apply Kd.V_drewN | apply Kd.V_drew)); exact HO_346001.out) hb); have n2_ := Aside0.mk (Kd.N_below (by (with_reducible repeat (first | apply Kd.N_alloc | apply Kd.N_drewN | apply Kd.N_drew)); exact HO_346002.out) hb); have n3_ := Aside0.mk (blk_below (g := gb335) (o := .cells #[.string a0_0, .slice A0_1 l0_1.length c0_1, .slice A0_2 l0_2.length c0_2] 25 (0, 0)) (by (with_reducible repeat (first | refine blk_drewN ?_ _ | refine blk_drew ?_ | refine blk_alloc ?_ _)); exact BK335.out) hb); have n4_ := Aside0.mk (blk_below (g := gb345) (o := .cells #[.string t338, .slice Ao16 t339.length co16, .slice Ao17 t342.length co17] 25 (0, 0)) (by (with_reducible repeat (first | refine blk_drewN ?_ _ | refine blk_drew ?_ | refine blk_alloc ?_ _)); exact BK345.out) hb); have n5_ := Aside0.mk (below_step (by repeat (first | (with_reducible first | exact HB.out | apply below_alloc | apply pw_below_drewN | apply below_drew1 | refine below_set ?_ GE335.out | refine below_set ?_ GE345.out) | exact HB.out)) hb); clear HO_24; clear HO_346001; clear HO_346002; clear BK335; clear BK345; clear HB; have HO_24 := n0_; have HO_346001 := n1_; have HO_346002 := n2_; have BK335 := n3_; have BK345 := n4_; have HB := n5_; clear n0_ n1_ n2_ n3_ n4_ n5_; (try clear hb); (try clear hb2); (try clear hk); (try clear hi)))
                go_meet
                case rel => exact ⟨_, (true), (by first | rfl | (simp; done) | (simp [*]; done)), H', ⟨by have := HK1.out; first | omega | exact Nat.le_refl _⟩, ⟨by (with_reducible repeat (first | apply Kd.V_alloc | apply Kd.V_drewN | apply Kd.V_drew)); exact Kd.V_mono HO_346001.out (fun _ hk => ⟨hk.2.1, ⟨hk.2.2.1, hk.2.2.2⟩⟩)⟩, ⟨by (with_reducible repeat (first | apply Kd.N_alloc | apply Kd.N_drewN | apply Kd.N_drew)); exact Kd.N_mono HO_346002.out (fun _ hk => ⟨hk.2.1, hk.2.2⟩)⟩, ⟨by (with_reducible repeat (first | refine blk_drewN ?_ _ | refine blk_drew ?_ | refine blk_alloc ?_ _)); exact BK335.out⟩, ⟨by (with_reducible repeat (first | refine blk_drewN ?_ _ | refine blk_drew ?_ | refine blk_alloc ?_ _)); exact BK345.out⟩, ⟨by repeat (first | (with_reducible first | exact HB.out | apply below_alloc | apply pw_below_drewN | apply below_drew1 | refine below_set ?_ GE335.out | refine below_set ?_ GE345.out) | exact HB.out)⟩⟩
            · replace c41 := Bool.eq_false_iff.mpr c41
              subst c41
              have H1 : ((itip_Status.f k1 a0_0 l0_1 l0_2 a1).bind fun t356 => (almanaclaw26_ItipKeeps.j1 k1 a1 (t356.toList != ([] : List UInt8)) a0_0 l0_1 l0_2 t338 t339 t342)) = some r := by rw [if_neg (show ¬ (false = true) by decide)] at H; exact H
              clear H
              have H := H1
              clear H1
              replace H := Option.bind_eq_some_iff.mp H
              obtain ⟨t356, A530, H⟩ := H
              replace H : (almanaclaw26_ItipKeeps.j1 k1 a1 (t356.toList != ([] : List UInt8)) a0_0 l0_1 l0_2 t338 t339 t342) = some r := H
              have A53 := Aside0.mk A530
              clear A530
              have H' := Aside0.mk H
              clear H
              have hnb54 := NB335_345.out
              have hnc54 := NB345_335.out
              have hcz55_0 : wr.cell? ⟨gb335, 0, none⟩ = some (.string a0_0) := (blk_cell BK335.out 0).trans rfl
              have hcz55_1 : wr.cell? ⟨gb335, 1, none⟩ = some (.slice A0_1 l0_1.length c0_1) := (blk_cell BK335.out 1).trans rfl
              have hcz55_2 : wr.cell? ⟨gb335, 2, none⟩ = some (.slice A0_2 l0_2.length c0_2) := (blk_cell BK335.out 2).trans rfl
              have hfz55_0 := blk_frozen BK335.out 0
              have hfz55_1 := blk_frozen BK335.out 1
              have hfz55_2 := blk_frozen BK335.out 2
              go_wp2_with (first | (go_at_call 20; (with_reducible refine (itip_Status.calls k1 a0_0 _ _ l0_1 _ _ l0_2 a1 t356 _ ?side1 ?side2 ?side3 ?side4 A53.out).mono ?_); (case side1 => repeat (first | exact (Kd.C_below HR0_1.out HB.out) | (with_reducible refine Kd.C_alloc ?_ _) | (with_reducible refine Kd.C_drewN ?_ _) | (with_reducible refine Kd.C_drew ?_))); (case side2 => exact HC0_1.out); (case side3 => repeat (first | exact (Kd.C_below HR0_2.out HB.out) | (with_reducible refine Kd.C_alloc ?_ _) | (with_reducible refine Kd.C_drewN ?_ _) | (with_reducible refine Kd.C_drew ?_))); (case side4 => exact HC0_2.out); rintro e w56 ⟨rfl, hb⟩; have n0_ := Aside0.mk (Kd.R_below (by (with_reducible repeat (first | apply Kd.R_alloc | apply Kd.R_drewN | apply Kd.R_drew)); exact HO_24.out) hb); have n1_ := Aside0.mk (Kd.V_below (by (with_reducible repeat (first | apply Kd.V_alloc | apply Kd.V_drewN | apply Kd.V_drew)); exact HO_346001.out) hb); have n2_ := Aside0.mk (Kd.N_below (by (with_reducible repeat (first | apply Kd.N_alloc | apply Kd.N_drewN | apply Kd.N_drew)); exact HO_346002.out) hb); have n3_ := Aside0.mk (blk_below (g := gb335) (o := .cells #[.string a0_0, .slice A0_1 l0_1.length c0_1, .slice A0_2 l0_2.length c0_2] 25 (0, 0)) (by (with_reducible repeat (first | refine blk_drewN ?_ _ | refine blk_drew ?_ | refine blk_alloc ?_ _)); exact BK335.out) hb); have n4_ := Aside0.mk (blk_below (g := gb345) (o := .cells #[.string t338, .slice Ao16 t339.length co16, .slice Ao17 t342.length co17] 25 (0, 0)) (by (with_reducible repeat (first | refine blk_drewN ?_ _ | refine blk_drew ?_ | refine blk_alloc ?_ _)); exact BK345.out) hb); have n5_ := Aside0.mk (below_step (by repeat (first | (with_reducible first | exact HB.out | apply below_alloc | apply pw_below_drewN | apply below_drew1 | refine below_set ?_ GE335.out | refine below_set ?_ GE345.out) | exact HB.out)) hb); clear HO_24; clear HO_346001; clear HO_346002; clear BK335; clear BK345; clear HB; have HO_24 := n0_; have HO_346001 := n1_; have HO_346002 := n2_; have BK335 := n3_; have BK345 := n4_; have HB := n5_; clear n0_ n1_ n2_ n3_ n4_ n5_; (try clear hb); (try clear hb2); (try clear hk); (try clear hi)))
              go_meet
              case rel => exact ⟨_, ((t356.toList != ([] : List UInt8))), (by first | (cases t356.toList <;> rfl) | rfl | (simp; done) | (simp [*]; done)), H', ⟨by have := HK1.out; first | omega | exact Nat.le_refl _⟩, ⟨by (with_reducible repeat (first | apply Kd.V_alloc | apply Kd.V_drewN | apply Kd.V_drew)); exact Kd.V_mono HO_346001.out (fun _ hk => ⟨hk.2.1, ⟨hk.2.2.1, hk.2.2.2⟩⟩)⟩, ⟨by (with_reducible repeat (first | apply Kd.N_alloc | apply Kd.N_drewN | apply Kd.N_drew)); exact Kd.N_mono HO_346002.out (fun _ hk => ⟨hk.2.1, hk.2.2⟩)⟩, ⟨by (with_reducible repeat (first | refine blk_drewN ?_ _ | refine blk_drew ?_ | refine blk_alloc ?_ _)); exact BK335.out⟩, ⟨by (with_reducible repeat (first | refine blk_drewN ?_ _ | refine blk_drew ?_ | refine blk_alloc ?_ _)); exact BK345.out⟩, ⟨by repeat (first | (with_reducible first | exact HB.out | apply below_alloc | apply pw_below_drewN | apply below_drew1 | refine below_set ?_ GE335.out | refine below_set ?_ GE345.out) | exact HB.out)⟩⟩
          case rest =>
            clear HC40
            try clear c1
            try clear c2
            try clear p2
            try clear c3
            try clear p3
            try clear q3
            try clear hx3
            try clear c4
            try clear c5
            try clear c6
            try clear p6
            try clear c8
            try clear c14
            try clear c15
            try clear c19
            try clear c21
            try clear c21b0
            try clear c22
            try clear c22b0
            try clear c23
            try clear c23b0
            try clear c26
            try clear c29
            try clear c29b0
            try clear c29b1
            try clear c32
            try clear c33
            try clear p34
            try clear q34
            try clear hx34
            try clear c41
            try clear c44
            try clear c44b0
            try clear c44b1
            try clear c45
            try clear c49
            try clear c54
            try clear hcz11_0
            try clear hcz11_1
            try clear hcz11_2
            try clear hcz15_0
            try clear hcz15_1
            try clear hcz15_2
            try clear hcz18_0
            try clear hcz18_1
            try clear hcz18_2
            try clear hcz46_0
            try clear hcz46_1
            try clear hcz46_2
            try clear hcz50_0
            try clear hcz50_1
            try clear hcz50_2
            try clear hcz55_0
            try clear hcz55_1
            try clear hcz55_2
            try clear hcz9_0
            try clear hcz9_1
            try clear hcz9_2
            try clear hfz11_0
            try clear hfz11_1
            try clear hfz11_2
            try clear hfz15_0
            try clear hfz15_1
            try clear hfz15_2
            try clear hfz18_0
            try clear hfz18_1
            try clear hfz18_2
            try clear hfz46_0
            try clear hfz46_1
            try clear hfz46_2
            try clear hfz50_0
            try clear hfz50_1
            try clear hfz50_2
            try clear hfz55_0
            try clear hfz55_1
            try clear hfz55_2
            try clear hfz9_0
            try clear hfz9_1
            try clear hfz9_2
            try clear hx349_0
            try clear p2
            try clear p349
            try clear q349
            obtain ⟨kq, x76_39, rfl, HA, HJ39, HO_346001, HO_346002, BK335, BK345, HB⟩ := hcut
            cases kq with
            | zero => exact absurd HA.out (by simp [almanaclaw26_ItipKeeps.j1])
            | succ kj39 =>
              have H := HA.out
              clear HA
              simp only [almanaclaw26_ItipKeeps.j1] at H
              by_cases c57 : x76_39 = true
              · subst c57
                have H1 : (some false) = some r := by rw [if_pos rfl] at H; exact H
                clear H
                have H := H1
                clear H1
                exact absurd ((Option.some.inj H).trans HRT.out) (by decide)
              · replace c57 := Bool.eq_false_iff.mpr c57
                subst c57
                have H1 : ((itip_Significant.f a0_0 l0_1 l0_2 a0_0 l0_1 l0_2).bind fun t357 => (if t357 = true then (some false) else ((itip_Significant.f a0_0 l0_1 l0_2 t338 t339 t342).bind fun t358 => (if t358 = true then (some false) else ((itip_Only.f kj39 a0_0 l0_1 l0_2 a1).bind fun bt359 => ((itip_Significant.f a0_0 l0_1 l0_2 bt359.1 bt359.2.1 bt359.2.2).bind fun t366 => (if t366 = true then (some false) else ((itip_Message.f kj39 a0_0 l0_1 l0_2 (⟨#[88]⟩ : ByteArray)).bind fun bt367 => ((itip_Significant.f a0_0 l0_1 l0_2 bt367.1 bt367.2.1 bt367.2.2).bind fun t374 => (if t374 = true then (some false) else ((itip_Delivered.f kj39 a0_0 l0_1 l0_2 a1 (⟨#[49]⟩ : ByteArray)).bind fun bt375 => ((itip_Significant.f a0_0 l0_1 l0_2 bt375.1 bt375.2.1 bt375.2.2).bind fun t382 => (if t382 = true then (some false) else ((almanaclaw26_awake.f).bind fun t383 => (some t383))))))))))))))) = some r := by rw [if_neg (show ¬ (false = true) by decide)] at H; exact H
                clear H
                have H := H1
                clear H1
                replace H := Option.bind_eq_some_iff.mp H
                obtain ⟨t357, A580, H⟩ := H
                replace H : (if t357 = true then (some false) else ((itip_Significant.f a0_0 l0_1 l0_2 t338 t339 t342).bind fun t358 => (if t358 = true then (some false) else ((itip_Only.f kj39 a0_0 l0_1 l0_2 a1).bind fun bt359 => ((itip_Significant.f a0_0 l0_1 l0_2 bt359.1 bt359.2.1 bt359.2.2).bind fun t366 => (if t366 = true then (some false) else ((itip_Message.f kj39 a0_0 l0_1 l0_2 (⟨#[88]⟩ : ByteArray)).bind fun bt367 => ((itip_Significant.f a0_0 l0_1 l0_2 bt367.1 bt367.2.1 bt367.2.2).bind fun t374 => (if t374 = true then (some false) else ((itip_Delivered.f kj39 a0_0 l0_1 l0_2 a1 (⟨#[49]⟩ : ByteArray)).bind fun bt375 => ((itip_Significant.f a0_0 l0_1 l0_2 bt375.1 bt375.2.1 bt375.2.2).bind fun t382 => (if t382 = true then (some false) else ((almanaclaw26_awake.f).bind fun t383 => (some t383)))))))))))))) = some r := H
                have A58 := Aside0.mk A580
                clear A580
                by_cases c59 : t357 = true
                · subst c59
                  have H1 : (some false) = some r := by rw [if_pos rfl] at H; exact H
                  clear H
                  have H := H1
                  clear H1
                  exact absurd ((Option.some.inj H).trans HRT.out) (by decide)
                · replace c59 := Bool.eq_false_iff.mpr c59
                  subst c59
                  have H1 : ((itip_Significant.f a0_0 l0_1 l0_2 t338 t339 t342).bind fun t358 => (if t358 = true then (some false) else ((itip_Only.f kj39 a0_0 l0_1 l0_2 a1).bind fun bt359 => ((itip_Significant.f a0_0 l0_1 l0_2 bt359.1 bt359.2.1 bt359.2.2).bind fun t366 => (if t366 = true then (some false) else ((itip_Message.f kj39 a0_0 l0_1 l0_2 (⟨#[88]⟩ : ByteArray)).bind fun bt367 => ((itip_Significant.f a0_0 l0_1 l0_2 bt367.1 bt367.2.1 bt367.2.2).bind fun t374 => (if t374 = true then (some false) else ((itip_Delivered.f kj39 a0_0 l0_1 l0_2 a1 (⟨#[49]⟩ : ByteArray)).bind fun bt375 => ((itip_Significant.f a0_0 l0_1 l0_2 bt375.1 bt375.2.1 bt375.2.2).bind fun t382 => (if t382 = true then (some false) else ((almanaclaw26_awake.f).bind fun t383 => (some t383))))))))))))) = some r := by rw [if_neg (show ¬ (false = true) by decide)] at H; exact H
                  clear H
                  have H := H1
                  clear H1
                  replace H := Option.bind_eq_some_iff.mp H
                  obtain ⟨t358, A600, H⟩ := H
                  replace H : (if t358 = true then (some false) else ((itip_Only.f kj39 a0_0 l0_1 l0_2 a1).bind fun bt359 => ((itip_Significant.f a0_0 l0_1 l0_2 bt359.1 bt359.2.1 bt359.2.2).bind fun t366 => (if t366 = true then (some false) else ((itip_Message.f kj39 a0_0 l0_1 l0_2 (⟨#[88]⟩ : ByteArray)).bind fun bt367 => ((itip_Significant.f a0_0 l0_1 l0_2 bt367.1 bt367.2.1 bt367.2.2).bind fun t374 => (if t374 = true then (some false) else ((itip_Delivered.f kj39 a0_0 l0_1 l0_2 a1 (⟨#[49]⟩ : ByteArray)).bind fun bt375 => ((itip_Significant.f a0_0 l0_1 l0_2 bt375.1 bt375.2.1 bt375.2.2).bind fun t382 => (if t382 = true then (some false) else ((almanaclaw26_awake.f).bind fun t383 => (some t383)))))))))))) = some r := H
                  have A60 := Aside0.mk A600
                  clear A600
                  by_cases c61 : t358 = true
                  · subst c61
                    have H1 : (some false) = some r := by rw [if_pos rfl] at H; exact H
                    clear H
                    have H := H1
                    clear H1
                    exact absurd ((Option.some.inj H).trans HRT.out) (by decide)
                  · replace c61 := Bool.eq_false_iff.mpr c61
                    subst c61
                    have H1 : ((itip_Only.f kj39 a0_0 l0_1 l0_2 a1).bind fun bt359 => ((itip_Significant.f a0_0 l0_1 l0_2 bt359.1 bt359.2.1 bt359.2.2).bind fun t366 => (if t366 = true then (some false) else ((itip_Message.f kj39 a0_0 l0_1 l0_2 (⟨#[88]⟩ : ByteArray)).bind fun bt367 => ((itip_Significant.f a0_0 l0_1 l0_2 bt367.1 bt367.2.1 bt367.2.2).bind fun t374 => (if t374 = true then (some false) else ((itip_Delivered.f kj39 a0_0 l0_1 l0_2 a1 (⟨#[49]⟩ : ByteArray)).bind fun bt375 => ((itip_Significant.f a0_0 l0_1 l0_2 bt375.1 bt375.2.1 bt375.2.2).bind fun t382 => (if t382 = true then (some false) else ((almanaclaw26_awake.f).bind fun t383 => (some t383))))))))))) = some r := by rw [if_neg (show ¬ (false = true) by decide)] at H; exact H
                    clear H
                    have H := H1
                    clear H1
                    replace H := Option.bind_eq_some_iff.mp H
                    obtain ⟨⟨t359, t360, t363⟩, A620, H⟩ := H
                    replace H : ((itip_Significant.f a0_0 l0_1 l0_2 t359 t360 t363).bind fun t366 => (if t366 = true then (some false) else ((itip_Message.f kj39 a0_0 l0_1 l0_2 (⟨#[88]⟩ : ByteArray)).bind fun bt367 => ((itip_Significant.f a0_0 l0_1 l0_2 bt367.1 bt367.2.1 bt367.2.2).bind fun t374 => (if t374 = true then (some false) else ((itip_Delivered.f kj39 a0_0 l0_1 l0_2 a1 (⟨#[49]⟩ : ByteArray)).bind fun bt375 => ((itip_Significant.f a0_0 l0_1 l0_2 bt375.1 bt375.2.1 bt375.2.2).bind fun t382 => (if t382 = true then (some false) else ((almanaclaw26_awake.f).bind fun t383 => (some t383)))))))))) = some r := H
                    have A62 := Aside0.mk A620
                    clear A620
                    replace H := Option.bind_eq_some_iff.mp H
                    obtain ⟨t366, A630, H⟩ := H
                    replace H : (if t366 = true then (some false) else ((itip_Message.f kj39 a0_0 l0_1 l0_2 (⟨#[88]⟩ : ByteArray)).bind fun bt367 => ((itip_Significant.f a0_0 l0_1 l0_2 bt367.1 bt367.2.1 bt367.2.2).bind fun t374 => (if t374 = true then (some false) else ((itip_Delivered.f kj39 a0_0 l0_1 l0_2 a1 (⟨#[49]⟩ : ByteArray)).bind fun bt375 => ((itip_Significant.f a0_0 l0_1 l0_2 bt375.1 bt375.2.1 bt375.2.2).bind fun t382 => (if t382 = true then (some false) else ((almanaclaw26_awake.f).bind fun t383 => (some t383))))))))) = some r := H
                    have A63 := Aside0.mk A630
                    clear A630
                    by_cases c64 : t366 = true
                    · subst c64
                      have H1 : (some false) = some r := by rw [if_pos rfl] at H; exact H
                      clear H
                      have H := H1
                      clear H1
                      exact absurd ((Option.some.inj H).trans HRT.out) (by decide)
                    · replace c64 := Bool.eq_false_iff.mpr c64
                      subst c64
                      have H1 : ((itip_Message.f kj39 a0_0 l0_1 l0_2 (⟨#[88]⟩ : ByteArray)).bind fun bt367 => ((itip_Significant.f a0_0 l0_1 l0_2 bt367.1 bt367.2.1 bt367.2.2).bind fun t374 => (if t374 = true then (some false) else ((itip_Delivered.f kj39 a0_0 l0_1 l0_2 a1 (⟨#[49]⟩ : ByteArray)).bind fun bt375 => ((itip_Significant.f a0_0 l0_1 l0_2 bt375.1 bt375.2.1 bt375.2.2).bind fun t382 => (if t382 = true then (some false) else ((almanaclaw26_awake.f).bind fun t383 => (some t383)))))))) = some r := by rw [if_neg (show ¬ (false = true) by decide)] at H; exact H
                      clear H
                      have H := H1
                      clear H1
                      replace H := Option.bind_eq_some_iff.mp H
                      obtain ⟨⟨t367, t368, t371⟩, A650, H⟩ := H
                      replace H : ((itip_Significant.f a0_0 l0_1 l0_2 t367 t368 t371).bind fun t374 => (if t374 = true then (some false) else ((itip_Delivered.f kj39 a0_0 l0_1 l0_2 a1 (⟨#[49]⟩ : ByteArray)).bind fun bt375 => ((itip_Significant.f a0_0 l0_1 l0_2 bt375.1 bt375.2.1 bt375.2.2).bind fun t382 => (if t382 = true then (some false) else ((almanaclaw26_awake.f).bind fun t383 => (some t383))))))) = some r := H
                      have A65 := Aside0.mk A650
                      clear A650
                      replace H := Option.bind_eq_some_iff.mp H
                      obtain ⟨t374, A660, H⟩ := H
                      replace H : (if t374 = true then (some false) else ((itip_Delivered.f kj39 a0_0 l0_1 l0_2 a1 (⟨#[49]⟩ : ByteArray)).bind fun bt375 => ((itip_Significant.f a0_0 l0_1 l0_2 bt375.1 bt375.2.1 bt375.2.2).bind fun t382 => (if t382 = true then (some false) else ((almanaclaw26_awake.f).bind fun t383 => (some t383)))))) = some r := H
                      have A66 := Aside0.mk A660
                      clear A660
                      by_cases c67 : t374 = true
                      · subst c67
                        have H1 : (some false) = some r := by rw [if_pos rfl] at H; exact H
                        clear H
                        have H := H1
                        clear H1
                        exact absurd ((Option.some.inj H).trans HRT.out) (by decide)
                      · replace c67 := Bool.eq_false_iff.mpr c67
                        subst c67
                        have H1 : ((itip_Delivered.f kj39 a0_0 l0_1 l0_2 a1 (⟨#[49]⟩ : ByteArray)).bind fun bt375 => ((itip_Significant.f a0_0 l0_1 l0_2 bt375.1 bt375.2.1 bt375.2.2).bind fun t382 => (if t382 = true then (some false) else ((almanaclaw26_awake.f).bind fun t383 => (some t383))))) = some r := by rw [if_neg (show ¬ (false = true) by decide)] at H; exact H
                        clear H
                        have H := H1
                        clear H1
                        replace H := Option.bind_eq_some_iff.mp H
                        obtain ⟨⟨t375, t376, t379⟩, A680, H⟩ := H
                        replace H : ((itip_Significant.f a0_0 l0_1 l0_2 t375 t376 t379).bind fun t382 => (if t382 = true then (some false) else ((almanaclaw26_awake.f).bind fun t383 => (some t383)))) = some r := H
                        have A68 := Aside0.mk A680
                        clear A680
                        replace H := Option.bind_eq_some_iff.mp H
                        obtain ⟨t382, A690, H⟩ := H
                        replace H : (if t382 = true then (some false) else ((almanaclaw26_awake.f).bind fun t383 => (some t383))) = some r := H
                        have A69 := Aside0.mk A690
                        clear A690
                        by_cases c70 : t382 = true
                        · subst c70
                          have H1 : (some false) = some r := by rw [if_pos rfl] at H; exact H
                          clear H
                          have H := H1
                          clear H1
                          exact absurd ((Option.some.inj H).trans HRT.out) (by decide)
                        · replace c70 := Bool.eq_false_iff.mpr c70
                          subst c70
                          have H1 : ((almanaclaw26_awake.f).bind fun t383 => (some t383)) = some r := by rw [if_neg (show ¬ (false = true) by decide)] at H; exact H
                          clear H
                          have H := H1
                          clear H1
                          replace H := Option.bind_eq_some_iff.mp H
                          obtain ⟨t383, A710, H⟩ := H
                          replace H : (some t383) = some r := H
                          have A71 := Aside0.mk A710
                          clear A710
                          obtain rfl := Option.some.inj H
                          try go_wp2
                          have n0_ := Aside0.mk (Kd.V_drew HO_346001.out)
                          have n1_ := Aside0.mk (Kd.N_drew HO_346002.out)
                          have n2_ := Aside0.mk (blk_drew BK335.out)
                          have n3_ := Aside0.mk (blk_drew BK345.out)
                          have n4_ := Aside0.mk (below_drew1 HB.out)
                          clear HO_346001
                          clear HO_346002
                          clear BK335
                          clear BK345
                          clear HB
                          have HO_346001 := n0_
                          have HO_346002 := n1_
                          have BK335 := n2_
                          have BK345 := n3_
                          have HB := n4_
                          clear n0_ n1_ n2_ n3_ n4_
                          refine start_ (n := 37) (S := fun w' => w'.cell? ⟨gb335, 0, none⟩ = some (.string a0_0) ∧ w'.cell? ⟨gb335, 1, none⟩ = some (.slice A0_1 l0_1.length c0_1) ∧ w'.cell? ⟨gb335, 2, none⟩ = some (.slice A0_2 l0_2.length c0_2) ∧ w'.cell? ⟨gb345, 0, none⟩ = some (.string t338) ∧ w'.cell? ⟨gb345, 1, none⟩ = some (.slice Ao16 t339.length co16) ∧ w'.cell? ⟨gb345, 2, none⟩ = some (.slice Ao17 t342.length co17)) (ds := []) #[false, false, false, false, false, false, false, false, false, false, false, false, false, false, false, false, false, false, false, false, false, false, false, false, false, false, false, false, false, false, false, false, false, false, false, false, false] (by kernel_rfl) rfl rfl ⟨(blk_cell BK335.out 0).trans rfl, (blk_cell BK335.out 1).trans rfl, (blk_cell BK335.out 2).trans rfl, (blk_cell BK345.out 0).trans rfl, (blk_cell BK345.out 1).trans rfl, (blk_cell BK345.out 2).trans rfl⟩ (fun hHeld => ?_); refine with_tabW almanaclaw26_ItipKeeps.tab14 almanaclaw26_ItipKeeps.bits14 (fun HT_ HW_ => ?_)
                          generalize wc.drew = w72 at HO_346001 HO_346002 BK335 BK345 HB hHeld ⊢
                          refine take_ (i := 0) (N := some 77) (v := ?_) (a' := ?_) #[true, false, false, false, false, false, false, false, false, false, false, false, false, false, false, false, false, false, false, false, false, false, false, false, false, false, false, false, false, false, false, false, false, false, false, false, false] rfl rfl (take_ofW HT_.out HW_.out (by kernel_rfl)) (fun _ _ _ h => h) (Or.inl ⟨by rfl, ?_⟩) hHeld ?_ ?_
                          rotate_left
                          · rintro w' ⟨s0, s1, s2, s3, s4, s5⟩
                            go_simp
                            with_reducible rfl
                          rotate_left
                          · simp only [Act.put, List.setIfInBounds_toArray, List.set_cons_zero, List.set_cons_succ, i64_w, i32_w]
                            rfl
                          refine take_ (i := 1) (N := some 78) (v := ?_) (a' := ?_) #[true, true, false, false, false, false, false, false, false, false, false, false, false, false, false, false, false, false, false, false, false, false, false, false, false, false, false, false, false, false, false, false, false, false, false, false, false] rfl rfl (take_ofW HT_.out HW_.out (by kernel_rfl)) (fun _ _ _ h => h) (Or.inl ⟨by rfl, ?_⟩) hHeld ?_ ?_
                          rotate_left
                          · rintro w' ⟨s0, s1, s2, s3, s4, s5⟩
                            go_simp
                            with_reducible rfl
                          rotate_left
                          · simp only [Act.put, List.setIfInBounds_toArray, List.set_cons_zero, List.set_cons_succ, i64_w, i32_w]
                            rfl
                          refine one_ (i := 2) (N := some 79) #[true, true, true, false, false, false, false, false, false, false, false, false, false, false, false, false, false, false, false, false, false, false, false, false, false, false, false, false, false, false, false, false, false, false, false, false, false] rfl rfl (one_of HT_.out (by kernel_rfl)) (by decide) (fun K hK => ?_)
                          refine goes_ Try.func17 (by kernel_rfl) rfl #[.agg #[.string a0_0, .slice A0_1 l0_1.length c0_1, .slice A0_2 l0_2.length c0_2], .agg #[.string a0_0, .slice A0_1 l0_1.length c0_1, .slice A0_2 l0_2.length c0_2]] (by rfl) rfl rfl (by (try simp only [List.map_toArray, List.map_cons, List.map_nil]); first | done | rfl | (simp only [List.length_drop, List.length_take]; rfl)) ?_
                          with_reducible refine (itip_Significant.calls a0_0 _ _ l0_1 _ _ l0_2 a0_0 _ _ l0_1 _ _ l0_2 false _ ?side1 ?side2 ?side3 ?side4 ?side5 ?side6 ?side7 ?side8 A58.out).mono ?_
                          (case side1 => repeat (first | exact (Kd.C_below HR0_1.out HB.out) | (with_reducible refine Kd.C_alloc ?_ _) | (with_reducible refine Kd.C_drewN ?_ _) | (with_reducible refine Kd.C_drew ?_)))
                          (case side2 => exact HC0_1.out)
                          (case side3 => repeat (first | exact (Kd.C_below HR0_2.out HB.out) | (with_reducible refine Kd.C_alloc ?_ _) | (with_reducible refine Kd.C_drewN ?_ _) | (with_reducible refine Kd.C_drew ?_)))
                          (case side4 => exact HC0_2.out)
                          (case side5 => repeat (first | exact (Kd.C_below HR0_1.out HB.out) | (with_reducible refine Kd.C_alloc ?_ _) | (with_reducible refine Kd.C_drewN ?_ _) | (with_reducible refine Kd.C_drew ?_)))
                          (case side6 => exact HC0_1.out)
                          (case side7 => repeat (first | exact (Kd.C_below HR0_2.out HB.out) | (with_reducible refine Kd.C_alloc ?_ _) | (with_reducible refine Kd.C_drewN ?_ _) | (with_reducible refine Kd.C_drew ?_)))
                          (case side8 => exact HC0_2.out)
                          rintro e w73 ⟨rfl, hb⟩
                          refine ⟨_, rfl, ?_⟩
                          have n0_ := Aside0.mk (Kd.V_below (by (with_reducible repeat (first | apply Kd.V_alloc | apply Kd.V_drewN | apply Kd.V_drew)); exact HO_346001.out) hb)
                          have n1_ := Aside0.mk (Kd.N_below (by (with_reducible repeat (first | apply Kd.N_alloc | apply Kd.N_drewN | apply Kd.N_drew)); exact HO_346002.out) hb)
                          have n2_ := Aside0.mk (blk_below (g := gb335) (o := .cells #[.string a0_0, .slice A0_1 l0_1.length c0_1, .slice A0_2 l0_2.length c0_2] 25 (0, 0)) (by (with_reducible repeat (first | refine blk_drewN ?_ _ | refine blk_drew ?_ | refine blk_alloc ?_ _)); exact BK335.out) hb)
                          have n3_ := Aside0.mk (blk_below (g := gb345) (o := .cells #[.string t338, .slice Ao16 t339.length co16, .slice Ao17 t342.length co17] 25 (0, 0)) (by (with_reducible repeat (first | refine blk_drewN ?_ _ | refine blk_drew ?_ | refine blk_alloc ?_ _)); exact BK345.out) hb)
                          have n4_ := Aside0.mk (below_step (by repeat (first | (with_reducible first | exact HB.out | apply below_alloc | apply pw_below_drewN | apply below_drew1 | refine below_set ?_ GE335.out | refine below_set ?_ GE345.out) | exact HB.out)) hb)
                          clear HO_346001
                          clear HO_346002
                          clear BK335
                          clear BK345
                          clear HB
                          have HO_346001 := n0_
                          have HO_346002 := n1_
                          have BK335 := n2_
                          have BK345 := n3_
                          have HB := n4_
                          clear n0_ n1_ n2_ n3_ n4_
                          (try clear hb)
                          (try clear hb2)
                          (try clear hk)
                          (try clear hi)
                          refine hK.out _ _ ⟨(blk_cell BK335.out 0).trans rfl, (blk_cell BK335.out 1).trans rfl, (blk_cell BK335.out 2).trans rfl, (blk_cell BK345.out 0).trans rfl, (blk_cell BK345.out 1).trans rfl, (blk_cell BK345.out 2).trans rfl⟩ (fun hHeld => ?_)
                          clear hK K
                          refine norm_ (a' := ?_) ?_ ?_
                          rotate_left
                          · show Act.put _ (some 79) _ = _
                            simp only [Act.put, List.setIfInBounds_toArray, List.set_cons_zero, List.set_cons_succ, i64_w, i32_w]
                            rfl
                          refine pure_ (i := 3) (N := some 80) (v := ?_) (a' := ?_) #[true, true, true, true, false, false, false, false, false, false, false, false, false, false, false, false, false, false, false, false, false, false, false, false, false, false, false, false, false, false, false, false, false, false, false, false, false] rfl rfl (any_of HT_.out (by kernel_rfl)) (fun _ _ _ h => h) (Or.inl ⟨by rfl, ?_⟩) ?_ ?_
                          rotate_left
                          · intro w'
                            go_simp
                            with_reducible rfl
                          rotate_left
                          · simp only [Act.put, List.setIfInBounds_toArray, List.set_cons_zero, List.set_cons_succ, i64_w, i32_w]
                            rfl
                          refine pure_ (i := 4) (N := some 81) (v := ?_) (a' := ?_) #[true, true, true, true, true, false, false, false, false, false, false, false, false, false, false, false, false, false, false, false, false, false, false, false, false, false, false, false, false, false, false, false, false, false, false, false, false] rfl rfl (any_of HT_.out (by kernel_rfl)) (fun _ _ _ h => h) (Or.inl ⟨by rfl, ?_⟩) ?_ ?_
                          rotate_left
                          · intro w'
                            go_simp
                            with_reducible rfl
                          rotate_left
                          · simp only [Act.put, List.setIfInBounds_toArray, List.set_cons_zero, List.set_cons_succ, i64_w, i32_w]
                            rfl
                          refine take_ (i := 5) (N := some 82) (v := ?_) (a' := ?_) #[true, true, true, true, true, true, false, false, false, false, false, false, false, false, false, false, false, false, false, false, false, false, false, false, false, false, false, false, false, false, false, false, false, false, false, false, false] rfl rfl (take_ofW HT_.out HW_.out (by kernel_rfl)) (fun _ _ _ h => h) (Or.inl ⟨by rfl, ?_⟩) hHeld ?_ ?_
                          rotate_left
                          · rintro w' ⟨s0, s1, s2, s3, s4, s5⟩
                            go_simp
                            with_reducible rfl
                          rotate_left
                          · simp only [Act.put, List.setIfInBounds_toArray, List.set_cons_zero, List.set_cons_succ, i64_w, i32_w]
                            rfl
                          refine take_ (i := 6) (N := some 83) (v := ?_) (a' := ?_) #[true, true, true, true, true, true, true, false, false, false, false, false, false, false, false, false, false, false, false, false, false, false, false, false, false, false, false, false, false, false, false, false, false, false, false, false, false] rfl rfl (take_ofW HT_.out HW_.out (by kernel_rfl)) (fun _ _ _ h => h) (Or.inl ⟨by rfl, ?_⟩) hHeld ?_ ?_
                          rotate_left
                          · rintro w' ⟨s0, s1, s2, s3, s4, s5⟩
                            go_simp
                            with_reducible rfl
                          rotate_left
                          · simp only [Act.put, List.setIfInBounds_toArray, List.set_cons_zero, List.set_cons_succ, i64_w, i32_w]
                            rfl
                          refine one_ (i := 7) (N := some 84) #[true, true, true, true, true, true, true, true, false, false, false, false, false, false, false, false, false, false, false, false, false, false, false, false, false, false, false, false, false, false, false, false, false, false, false, false, false] rfl rfl (one_of HT_.out (by kernel_rfl)) (by decide) (fun K hK => ?_)
                          refine goes_ Try.func17 (by kernel_rfl) rfl #[.agg #[.string a0_0, .slice A0_1 l0_1.length c0_1, .slice A0_2 l0_2.length c0_2], .agg #[.string t338, .slice Ao16 t339.length co16, .slice Ao17 t342.length co17]] (by rfl) rfl rfl (by (try simp only [List.map_toArray, List.map_cons, List.map_nil]); first | done | rfl | (simp only [List.length_drop, List.length_take]; rfl)) ?_
                          with_reducible refine (itip_Significant.calls a0_0 _ _ l0_1 _ _ l0_2 t338 _ _ t339 _ _ t342 false _ ?side1 ?side2 ?side3 ?side4 ?side5 ?side6 ?side7 ?side8 A60.out).mono ?_
                          (case side1 => repeat (first | exact (Kd.C_below HR0_1.out HB.out) | (with_reducible refine Kd.C_alloc ?_ _) | (with_reducible refine Kd.C_drewN ?_ _) | (with_reducible refine Kd.C_drew ?_)))
                          (case side2 => exact HC0_1.out)
                          (case side3 => repeat (first | exact (Kd.C_below HR0_2.out HB.out) | (with_reducible refine Kd.C_alloc ?_ _) | (with_reducible refine Kd.C_drewN ?_ _) | (with_reducible refine Kd.C_drew ?_)))
                          (case side4 => exact HC0_2.out)
                          (case side5 => repeat (first | exact (Kd.V_reads' HO_346001.out).2.2 | (with_reducible refine Kd.C_alloc ?_ _) | (with_reducible refine Kd.C_drewN ?_ _) | (with_reducible refine Kd.C_drew ?_)))
                          (case side6 => exact (Kd.V_reads' HO_346001.out).2.1)
                          (case side7 => repeat (first | exact (Kd.N_reads' HO_346002.out).2.2 | (with_reducible refine Kd.C_alloc ?_ _) | (with_reducible refine Kd.C_drewN ?_ _) | (with_reducible refine Kd.C_drew ?_)))
                          (case side8 => exact (Kd.N_reads' HO_346002.out).2.1)
                          rintro e w74 ⟨rfl, hb⟩
                          refine ⟨_, rfl, ?_⟩
                          have n0_ := Aside0.mk (Kd.V_below (by (with_reducible repeat (first | apply Kd.V_alloc | apply Kd.V_drewN | apply Kd.V_drew)); exact HO_346001.out) hb)
                          have n1_ := Aside0.mk (Kd.N_below (by (with_reducible repeat (first | apply Kd.N_alloc | apply Kd.N_drewN | apply Kd.N_drew)); exact HO_346002.out) hb)
                          have n2_ := Aside0.mk (blk_below (g := gb335) (o := .cells #[.string a0_0, .slice A0_1 l0_1.length c0_1, .slice A0_2 l0_2.length c0_2] 25 (0, 0)) (by (with_reducible repeat (first | refine blk_drewN ?_ _ | refine blk_drew ?_ | refine blk_alloc ?_ _)); exact BK335.out) hb)
                          have n3_ := Aside0.mk (blk_below (g := gb345) (o := .cells #[.string t338, .slice Ao16 t339.length co16, .slice Ao17 t342.length co17] 25 (0, 0)) (by (with_reducible repeat (first | refine blk_drewN ?_ _ | refine blk_drew ?_ | refine blk_alloc ?_ _)); exact BK345.out) hb)
                          have n4_ := Aside0.mk (below_step (by repeat (first | (with_reducible first | exact HB.out | apply below_alloc | apply pw_below_drewN | apply below_drew1 | refine below_set ?_ GE335.out | refine below_set ?_ GE345.out) | exact HB.out)) hb)
                          clear HO_346001
                          clear HO_346002
                          clear BK335
                          clear BK345
                          clear HB
                          have HO_346001 := n0_
                          have HO_346002 := n1_
                          have BK335 := n2_
                          have BK345 := n3_
                          have HB := n4_
                          clear n0_ n1_ n2_ n3_ n4_
                          (try clear hb)
                          (try clear hb2)
                          (try clear hk)
                          (try clear hi)
                          refine hK.out _ _ ⟨(blk_cell BK335.out 0).trans rfl, (blk_cell BK335.out 1).trans rfl, (blk_cell BK335.out 2).trans rfl, (blk_cell BK345.out 0).trans rfl, (blk_cell BK345.out 1).trans rfl, (blk_cell BK345.out 2).trans rfl⟩ (fun hHeld => ?_)
                          clear hK K
                          refine norm_ (a' := ?_) ?_ ?_
                          rotate_left
                          · show Act.put _ (some 84) _ = _
                            simp only [Act.put, List.setIfInBounds_toArray, List.set_cons_zero, List.set_cons_succ, i64_w, i32_w]
                            rfl
                          refine pure_ (i := 8) (N := some 85) (v := ?_) (a' := ?_) #[true, true, true, true, true, true, true, true, true, false, false, false, false, false, false, false, false, false, false, false, false, false, false, false, false, false, false, false, false, false, false, false, false, false, false, false, false] rfl rfl (any_of HT_.out (by kernel_rfl)) (fun _ _ _ h => h) (Or.inl ⟨by rfl, ?_⟩) ?_ ?_
                          rotate_left
                          · intro w'
                            go_simp
                            with_reducible rfl
                          rotate_left
                          · simp only [Act.put, List.setIfInBounds_toArray, List.set_cons_zero, List.set_cons_succ, i64_w, i32_w]
                            rfl
                          refine pure_ (i := 9) (N := some 86) (v := ?_) (a' := ?_) #[true, true, true, true, true, true, true, true, true, true, false, false, false, false, false, false, false, false, false, false, false, false, false, false, false, false, false, false, false, false, false, false, false, false, false, false, false] rfl rfl (any_of HT_.out (by kernel_rfl)) (fun _ _ _ h => h) (Or.inl ⟨by rfl, ?_⟩) ?_ ?_
                          rotate_left
                          · intro w'
                            go_simp
                            with_reducible rfl
                          rotate_left
                          · simp only [Act.put, List.setIfInBounds_toArray, List.set_cons_zero, List.set_cons_succ, i64_w, i32_w]
                            rfl
                          refine pure_ (i := 10) (N := some 87) (v := ?_) (a' := ?_) #[true, true, true, true, true, true, true, true, true, true, true, false, false, false, false, false, false, false, false, false, false, false, false, false, false, false, false, false, false, false, false, false, false, false, false, false, false] rfl rfl (any_of HT_.out (by kernel_rfl)) (fun _ _ _ h => h) (Or.inl ⟨by rfl, ?_⟩) ?_ ?_
                          rotate_left
                          · intro w'
                            go_simp
                            with_reducible rfl
                          rotate_left
                          · simp only [Act.put, List.setIfInBounds_toArray, List.set_cons_zero, List.set_cons_succ, i64_w, i32_w]
                            rfl
                          refine pure_ (i := 13) (N := some 90) (v := ?_) (a' := ?_) #[true, true, true, true, true, true, true, true, true, true, true, false, false, true, false, false, false, false, false, false, false, false, false, false, false, false, false, false, false, false, false, false, false, false, false, false, false] rfl rfl (any_of HT_.out (by kernel_rfl)) (fun _ _ _ h => h) (Or.inl ⟨by rfl, ?_⟩) ?_ ?_
                          rotate_left
                          · intro w'
                            go_simp
                            with_reducible rfl
                          rotate_left
                          · simp only [Act.put, List.setIfInBounds_toArray, List.set_cons_zero, List.set_cons_succ, i64_w, i32_w]
                            rfl
                          refine take_ (i := 11) (N := some 88) (v := ?_) (a' := ?_) #[true, true, true, true, true, true, true, true, true, true, true, true, false, true, false, false, false, false, false, false, false, false, false, false, false, false, false, false, false, false, false, false, false, false, false, false, false] rfl rfl (take_ofW HT_.out HW_.out (by kernel_rfl)) (fun _ _ _ h => h) (Or.inl ⟨by rfl, ?_⟩) hHeld ?_ ?_
                          rotate_left
                          · rintro w' ⟨s0, s1, s2, s3, s4, s5⟩
                            go_simp
                            with_reducible rfl
                          rotate_left
                          · simp only [Act.put, List.setIfInBounds_toArray, List.set_cons_zero, List.set_cons_succ, i64_w, i32_w]
                            rfl
                          refine take_ (i := 12) (N := some 89) (v := ?_) (a' := ?_) #[true, true, true, true, true, true, true, true, true, true, true, true, true, true, false, false, false, false, false, false, false, false, false, false, false, false, false, false, false, false, false, false, false, false, false, false, false] rfl rfl (take_ofW HT_.out HW_.out (by kernel_rfl)) (fun _ _ _ h => h) (Or.inl ⟨by rfl, ?_⟩) hHeld ?_ ?_
                          rotate_left
                          · rintro w' ⟨s0, s1, s2, s3, s4, s5⟩
                            go_simp
                            with_reducible rfl
                          rotate_left
                          · simp only [Act.put, List.setIfInBounds_toArray, List.set_cons_zero, List.set_cons_succ, i64_w, i32_w]
                            rfl
                          refine one_ (i := 14) (N := some 91) #[true, true, true, true, true, true, true, true, true, true, true, true, true, true, true, false, false, false, false, false, false, false, false, false, false, false, false, false, false, false, false, false, false, false, false, false, false] rfl rfl (one_of HT_.out (by kernel_rfl)) (by decide) (fun K hK => ?_)
                          refine goes_ Try.func22 (by kernel_rfl) rfl #[.agg #[.string a0_0, .slice A0_1 l0_1.length c0_1, .slice A0_2 l0_2.length c0_2], .string a1] (by rfl) rfl rfl (by (try simp only [List.map_toArray, List.map_cons, List.map_nil]); first | done | rfl | (simp only [List.length_drop, List.length_take]; rfl)) ?_
                          with_reducible refine (itip_Only.calls kj39 a0_0 (fun k_ => k_ < w.heap.size) _ _ l0_1 (fun k_ => k_ < w.heap.size) _ _ l0_2 a1 t359 t360 t363 _ ?side1 ?side2 A62.out).mono ?_
                          (case side1 => exact Kd.V_mk HC0_1.out (Kd.F_below (Kd.C_F k45_heap HR0_1.out) (by repeat (first | (with_reducible first | exact HB.out | apply below_alloc | apply pw_below_drewN | apply below_drew1 | refine below_set ?_ GE335.out | refine below_set ?_ GE345.out) | exact HB.out))))
                          (case side2 => exact Kd.V_mk HC0_2.out (Kd.F_below (Kd.C_F k25_heap HR0_2.out) (by repeat (first | (with_reducible first | exact HB.out | apply below_alloc | apply pw_below_drewN | apply below_drew1 | refine below_set ?_ GE335.out | refine below_set ?_ GE345.out) | exact HB.out))))
                          rintro e w75 ⟨v361, v364, rfl, ho0, ho1, hb⟩
                          refine ⟨_, rfl, ?_⟩
                          have n0_ := Aside0.mk (Kd.V_elder' (by (with_reducible repeat (first | apply Kd.V_alloc | apply Kd.V_drewN | apply Kd.V_drew)); exact HO_346001.out) (Kd.N_base ho1) hb)
                          have n1_ := Aside0.mk (Kd.N_elder' (by (with_reducible repeat (first | apply Kd.N_alloc | apply Kd.N_drewN | apply Kd.N_drew)); exact HO_346002.out) (Kd.N_base ho1) hb)
                          have n2_ := Aside0.mk (Kd.V_lower (Kd.V_mono (ok' := fun k_ => some k_ ≠ (v364 : Value).ownBlock ∧ some k_ ≠ (.slice Ao17 t342.length co17 : Value).ownBlock ∧ k_ ≠ gb335 ∧ k_ ≠ gb345) ho0 (fun k_ hk_ => ⟨hk_.2, Or.elim hk_.1 (fun hs_ => Or.elim hs_ (fun hs_ => fun e_ => Nat.not_le.2 hs_ (Kd.N_base HO_346002.out k_ e_.symm)) (fun hs_ => fun e_ => Nat.not_le.2 hs_ (Kd.N_base HO_346002.out k_ e_.symm))) (fun hn_ => (Kd.fresh' (Kd.N_lt (by (with_reducible repeat (first | apply Kd.N_alloc | apply Kd.N_drewN | apply Kd.N_drew)); exact HO_346002.out)) k_ hn_)), Or.elim hk_.1 (fun hs_ => Or.elim hs_ (fun hs_ => fun e_ => Nat.not_le.2 hs_ (by rw [e_]; exact GW335.out)) (fun hs_ => fun e_ => Nat.not_le.2 hs_ (by rw [e_]; exact GW335.out))) (fun hn_ => (Kd.freshB (g := gb335) (o := .cells #[.string a0_0, .slice A0_1 l0_1.length c0_1, .slice A0_2 l0_2.length c0_2] 25 (0, 0)) (by (with_reducible repeat (first | refine blk_drewN ?_ _ | refine blk_drew ?_ | refine blk_alloc ?_ _)); exact BK335.out) k_ hn_)), Or.elim hk_.1 (fun hs_ => Or.elim hs_ (fun hs_ => fun e_ => Nat.not_le.2 hs_ (by rw [e_]; exact GW345.out)) (fun hs_ => fun e_ => Nat.not_le.2 hs_ (by rw [e_]; exact GW345.out))) (fun hn_ => (Kd.freshB (g := gb345) (o := .cells #[.string t338, .slice Ao16 t339.length co16, .slice Ao17 t342.length co17] 25 (0, 0)) (by (with_reducible repeat (first | refine blk_drewN ?_ _ | refine blk_drew ?_ | refine blk_alloc ?_ _)); exact BK345.out) k_ hn_))⟩)) (below_size (by repeat (first | (with_reducible first | exact HB.out | apply below_alloc | apply pw_below_drewN | apply below_drew1 | refine below_set ?_ GE335.out | refine below_set ?_ GE345.out) | exact HB.out))))
                          have n3_ := Aside0.mk (Kd.N_lower (Kd.N_mono (ok' := fun k_ => some k_ ≠ (.slice Ao17 t342.length co17 : Value).ownBlock ∧ k_ ≠ gb335 ∧ k_ ≠ gb345) ho1 (fun k_ hk_ => ⟨Or.elim hk_ (fun hs_ => Or.elim hs_ (fun hs_ => fun e_ => Nat.not_le.2 hs_ (Kd.N_base HO_346002.out k_ e_.symm)) (fun hs_ => fun e_ => Nat.not_le.2 hs_ (Kd.N_base HO_346002.out k_ e_.symm))) (fun hn_ => (Kd.fresh' (Kd.N_lt (by (with_reducible repeat (first | apply Kd.N_alloc | apply Kd.N_drewN | apply Kd.N_drew)); exact HO_346002.out)) k_ hn_)), Or.elim hk_ (fun hs_ => Or.elim hs_ (fun hs_ => fun e_ => Nat.not_le.2 hs_ (by rw [e_]; exact GW335.out)) (fun hs_ => fun e_ => Nat.not_le.2 hs_ (by rw [e_]; exact GW335.out))) (fun hn_ => (Kd.freshB (g := gb335) (o := .cells #[.string a0_0, .slice A0_1 l0_1.length c0_1, .slice A0_2 l0_2.length c0_2] 25 (0, 0)) (by (with_reducible repeat (first | refine blk_drewN ?_ _ | refine blk_drew ?_ | refine blk_alloc ?_ _)); exact BK335.out) k_ hn_)), Or.elim hk_ (fun hs_ => Or.elim hs_ (fun hs_ => fun e_ => Nat.not_le.2 hs_ (by rw [e_]; exact GW345.out)) (fun hs_ => fun e_ => Nat.not_le.2 hs_ (by rw [e_]; exact GW345.out))) (fun hn_ => (Kd.freshB (g := gb345) (o := .cells #[.string t338, .slice Ao16 t339.length co16, .slice Ao17 t342.length co17] 25 (0, 0)) (by (with_reducible repeat (first | refine blk_drewN ?_ _ | refine blk_drew ?_ | refine blk_alloc ?_ _)); exact BK345.out) k_ hn_))⟩)) (below_size (by repeat (first | (with_reducible first | exact HB.out | apply below_alloc | apply pw_below_drewN | apply below_drew1 | refine below_set ?_ GE335.out | refine below_set ?_ GE345.out) | exact HB.out))))
                          have n4_ := Aside0.mk (blk_below (g := gb335) (o := .cells #[.string a0_0, .slice A0_1 l0_1.length c0_1, .slice A0_2 l0_2.length c0_2] 25 (0, 0)) (by (with_reducible repeat (first | refine blk_drewN ?_ _ | refine blk_drew ?_ | refine blk_alloc ?_ _)); exact BK335.out) hb)
                          have n5_ := Aside0.mk (blk_below (g := gb345) (o := .cells #[.string t338, .slice Ao16 t339.length co16, .slice Ao17 t342.length co17] 25 (0, 0)) (by (with_reducible repeat (first | refine blk_drewN ?_ _ | refine blk_drew ?_ | refine blk_alloc ?_ _)); exact BK345.out) hb)
                          have n6_ := Aside0.mk (below_step (by repeat (first | (with_reducible first | exact HB.out | apply below_alloc | apply pw_below_drewN | apply below_drew1 | refine below_set ?_ GE335.out | refine below_set ?_ GE345.out) | exact HB.out)) hb)
                          clear HO_346001
                          clear HO_346002
                          clear BK335
                          clear BK345
                          clear HB
                          have HO_346001 := n0_
                          have HO_346002 := n1_
                          have HO362 := n2_
                          have HO365 := n3_
                          have BK335 := n4_
                          have BK345 := n5_
                          have HB := n6_
                          clear n0_ n1_ n2_ n3_ n4_ n5_ n6_
                          (try clear hb)
                          (try clear hb2)
                          (try clear hk)
                          (try clear hi)
                          (try clear ho0)
                          (try clear ho1)
                          obtain ⟨Ao76, co76, eo76⟩ := Kd.V_slice HO362.out
                          (first | subst eo76 | (injection eo76 with f1_ f2_ f3_; have f4_ := f1_.symm; have f5_ := f3_.symm; clear f1_ f2_ f3_; subst f4_; subst f5_))
                          obtain ⟨Ao77, co77, eo77⟩ := Kd.N_slice HO365.out
                          (first | subst eo77 | (injection eo77 with f1_ f2_ f3_; have f4_ := f1_.symm; have f5_ := f3_.symm; clear f1_ f2_ f3_; subst f4_; subst f5_))
                          refine hK.out _ _ ⟨(blk_cell BK335.out 0).trans rfl, (blk_cell BK335.out 1).trans rfl, (blk_cell BK335.out 2).trans rfl, (blk_cell BK345.out 0).trans rfl, (blk_cell BK345.out 1).trans rfl, (blk_cell BK345.out 2).trans rfl⟩ (fun hHeld => ?_)
                          clear hK K
                          refine norm_ (a' := ?_) ?_ ?_
                          rotate_left
                          · show Act.put _ (some 91) _ = _
                            simp only [Act.put, List.setIfInBounds_toArray, List.set_cons_zero, List.set_cons_succ, i64_w, i32_w]
                            rfl
                          refine one_ (i := 15) (N := some 92) #[true, true, true, true, true, true, true, true, true, true, true, true, true, true, true, true, false, false, false, false, false, false, false, false, false, false, false, false, false, false, false, false, false, false, false, false, false] rfl rfl (one_of HT_.out (by kernel_rfl)) (by decide) (fun K hK => ?_)
                          refine goes_ Try.func17 (by kernel_rfl) rfl #[.agg #[.string a0_0, .slice A0_1 l0_1.length c0_1, .slice A0_2 l0_2.length c0_2], .agg #[.string t359, .slice Ao76 t360.length co76, .slice Ao77 t363.length co77]] (by rfl) rfl rfl (by (try simp only [List.map_toArray, List.map_cons, List.map_nil]); first | done | rfl | (simp only [List.length_drop, List.length_take]; rfl)) ?_
                          with_reducible refine (itip_Significant.calls a0_0 _ _ l0_1 _ _ l0_2 t359 _ _ t360 _ _ t363 false _ ?side1 ?side2 ?side3 ?side4 ?side5 ?side6 ?side7 ?side8 A63.out).mono ?_
                          (case side1 => repeat (first | exact (Kd.C_below HR0_1.out HB.out) | (with_reducible refine Kd.C_alloc ?_ _) | (with_reducible refine Kd.C_drewN ?_ _) | (with_reducible refine Kd.C_drew ?_)))
                          (case side2 => exact HC0_1.out)
                          (case side3 => repeat (first | exact (Kd.C_below HR0_2.out HB.out) | (with_reducible refine Kd.C_alloc ?_ _) | (with_reducible refine Kd.C_drewN ?_ _) | (with_reducible refine Kd.C_drew ?_)))
                          (case side4 => exact HC0_2.out)
                          (case side5 => repeat (first | exact (Kd.V_reads' HO362.out).2.2 | (with_reducible refine Kd.C_alloc ?_ _) | (with_reducible refine Kd.C_drewN ?_ _) | (with_reducible refine Kd.C_drew ?_)))
                          (case side6 => exact (Kd.V_reads' HO362.out).2.1)
                          (case side7 => repeat (first | exact (Kd.N_reads' HO365.out).2.2 | (with_reducible refine Kd.C_alloc ?_ _) | (with_reducible refine Kd.C_drewN ?_ _) | (with_reducible refine Kd.C_drew ?_)))
                          (case side8 => exact (Kd.N_reads' HO365.out).2.1)
                          rintro e w78 ⟨rfl, hb⟩
                          refine ⟨_, rfl, ?_⟩
                          have n0_ := Aside0.mk (Kd.V_below (by (with_reducible repeat (first | apply Kd.V_alloc | apply Kd.V_drewN | apply Kd.V_drew)); exact HO_346001.out) hb)
                          have n1_ := Aside0.mk (Kd.N_below (by (with_reducible repeat (first | apply Kd.N_alloc | apply Kd.N_drewN | apply Kd.N_drew)); exact HO_346002.out) hb)
                          have n2_ := Aside0.mk (Kd.V_below (by (with_reducible repeat (first | apply Kd.V_alloc | apply Kd.V_drewN | apply Kd.V_drew)); exact HO362.out) hb)
                          have n3_ := Aside0.mk (Kd.N_below (by (with_reducible repeat (first | apply Kd.N_alloc | apply Kd.N_drewN | apply Kd.N_drew)); exact HO365.out) hb)
                          have n4_ := Aside0.mk (blk_below (g := gb335) (o := .cells #[.string a0_0, .slice A0_1 l0_1.length c0_1, .slice A0_2 l0_2.length c0_2] 25 (0, 0)) (by (with_reducible repeat (first | refine blk_drewN ?_ _ | refine blk_drew ?_ | refine blk_alloc ?_ _)); exact BK335.out) hb)
                          have n5_ := Aside0.mk (blk_below (g := gb345) (o := .cells #[.string t338, .slice Ao16 t339.length co16, .slice Ao17 t342.length co17] 25 (0, 0)) (by (with_reducible repeat (first | refine blk_drewN ?_ _ | refine blk_drew ?_ | refine blk_alloc ?_ _)); exact BK345.out) hb)
                          have n6_ := Aside0.mk (below_step (by repeat (first | (with_reducible first | exact HB.out | apply below_alloc | apply pw_below_drewN | apply below_drew1 | refine below_set ?_ GE335.out | refine below_set ?_ GE345.out) | exact HB.out)) hb)
                          clear HO_346001
                          clear HO_346002
                          clear HO362
                          clear HO365
                          clear BK335
                          clear BK345
                          clear HB
                          have HO_346001 := n0_
                          have HO_346002 := n1_
                          have HO362 := n2_
                          have HO365 := n3_
                          have BK335 := n4_
                          have BK345 := n5_
                          have HB := n6_
                          clear n0_ n1_ n2_ n3_ n4_ n5_ n6_
                          (try clear hb)
                          (try clear hb2)
                          (try clear hk)
                          (try clear hi)
                          refine hK.out _ _ ⟨(blk_cell BK335.out 0).trans rfl, (blk_cell BK335.out 1).trans rfl, (blk_cell BK335.out 2).trans rfl, (blk_cell BK345.out 0).trans rfl, (blk_cell BK345.out 1).trans rfl, (blk_cell BK345.out 2).trans rfl⟩ (fun hHeld => ?_)
                          clear hK K
                          refine norm_ (a' := ?_) ?_ ?_
                          rotate_left
                          · show Act.put _ (some 92) _ = _
                            simp only [Act.put, List.setIfInBounds_toArray, List.set_cons_zero, List.set_cons_succ, i64_w, i32_w]
                            rfl
                          refine pure_ (i := 16) (N := some 93) (v := ?_) (a' := ?_) #[true, true, true, true, true, true, true, true, true, true, true, true, true, true, true, true, true, false, false, false, false, false, false, false, false, false, false, false, false, false, false, false, false, false, false, false, false] rfl rfl (any_of HT_.out (by kernel_rfl)) (fun _ _ _ h => h) (Or.inl ⟨by rfl, ?_⟩) ?_ ?_
                          rotate_left
                          · intro w'
                            go_simp
                            with_reducible rfl
                          rotate_left
                          · simp only [Act.put, List.setIfInBounds_toArray, List.set_cons_zero, List.set_cons_succ, i64_w, i32_w]
                            rfl
                          refine pure_ (i := 17) (N := some 94) (v := ?_) (a' := ?_) #[true, true, true, true, true, true, true, true, true, true, true, true, true, true, true, true, true, true, false, false, false, false, false, false, false, false, false, false, false, false, false, false, false, false, false, false, false] rfl rfl (any_of HT_.out (by kernel_rfl)) (fun _ _ _ h => h) (Or.inl ⟨by rfl, ?_⟩) ?_ ?_
                          rotate_left
                          · intro w'
                            go_simp
                            with_reducible rfl
                          rotate_left
                          · simp only [Act.put, List.setIfInBounds_toArray, List.set_cons_zero, List.set_cons_succ, i64_w, i32_w]
                            rfl
                          refine pure_ (i := 18) (N := some 95) (v := ?_) (a' := ?_) #[true, true, true, true, true, true, true, true, true, true, true, true, true, true, true, true, true, true, true, false, false, false, false, false, false, false, false, false, false, false, false, false, false, false, false, false, false] rfl rfl (any_of HT_.out (by kernel_rfl)) (fun _ _ _ h => h) (Or.inl ⟨by rfl, ?_⟩) ?_ ?_
                          rotate_left
                          · intro w'
                            go_simp
                            with_reducible rfl
                          rotate_left
                          · simp only [Act.put, List.setIfInBounds_toArray, List.set_cons_zero, List.set_cons_succ, i64_w, i32_w]
                            rfl
                          refine take_ (i := 19) (N := some 96) (v := ?_) (a' := ?_) #[true, true, true, true, true, true, true, true, true, true, true, true, true, true, true, true, true, true, true, true, false, false, false, false, false, false, false, false, false, false, false, false, false, false, false, false, false] rfl rfl (take_ofW HT_.out HW_.out (by kernel_rfl)) (fun _ _ _ h => h) (Or.inl ⟨by rfl, ?_⟩) hHeld ?_ ?_
                          rotate_left
                          · rintro w' ⟨s0, s1, s2, s3, s4, s5⟩
                            go_simp
                            with_reducible rfl
                          rotate_left
                          · simp only [Act.put, List.setIfInBounds_toArray, List.set_cons_zero, List.set_cons_succ, i64_w, i32_w]
                            rfl
                          refine take_ (i := 20) (N := some 97) (v := ?_) (a' := ?_) #[true, true, true, true, true, true, true, true, true, true, true, true, true, true, true, true, true, true, true, true, true, false, false, false, false, false, false, false, false, false, false, false, false, false, false, false, false] rfl rfl (take_ofW HT_.out HW_.out (by kernel_rfl)) (fun _ _ _ h => h) (Or.inl ⟨by rfl, ?_⟩) hHeld ?_ ?_
                          rotate_left
                          · rintro w' ⟨s0, s1, s2, s3, s4, s5⟩
                            go_simp
                            with_reducible rfl
                          rotate_left
                          · simp only [Act.put, List.setIfInBounds_toArray, List.set_cons_zero, List.set_cons_succ, i64_w, i32_w]
                            rfl
                          refine one_ (i := 21) (N := some 98) #[true, true, true, true, true, true, true, true, true, true, true, true, true, true, true, true, true, true, true, true, true, true, false, false, false, false, false, false, false, false, false, false, false, false, false, false, false] rfl rfl (one_of HT_.out (by kernel_rfl)) (by decide) (fun K hK => ?_)
                          refine goes_ Try.func23 (by kernel_rfl) rfl #[.agg #[.string a0_0, .slice A0_1 l0_1.length c0_1, .slice A0_2 l0_2.length c0_2], .string (⟨#[88]⟩ : ByteArray)] (by rfl) rfl rfl (by (try simp only [List.map_toArray, List.map_cons, List.map_nil]); first | done | rfl | (simp only [List.length_drop, List.length_take]; rfl)) ?_
                          with_reducible refine (itip_Message.calls kj39 a0_0 (fun k_ => k_ < w.heap.size) _ _ l0_1 (fun k_ => k_ < w.heap.size) _ _ l0_2 (⟨#[88]⟩ : ByteArray) t367 t368 t371 _ ?side1 ?side2 A65.out).mono ?_
                          (case side1 => exact Kd.V_mk HC0_1.out (Kd.F_below (Kd.C_F k45_heap HR0_1.out) (by repeat (first | (with_reducible first | exact HB.out | apply below_alloc | apply pw_below_drewN | apply below_drew1 | refine below_set ?_ GE335.out | refine below_set ?_ GE345.out) | exact HB.out))))
                          (case side2 => exact Kd.V_mk HC0_2.out (Kd.F_below (Kd.C_F k25_heap HR0_2.out) (by repeat (first | (with_reducible first | exact HB.out | apply below_alloc | apply pw_below_drewN | apply below_drew1 | refine below_set ?_ GE335.out | refine below_set ?_ GE345.out) | exact HB.out))))
                          rintro e w79 ⟨v369, v372, rfl, ho0, ho1, hb⟩
                          refine ⟨_, rfl, ?_⟩
                          have n0_ := Aside0.mk (Kd.V_elder' (by (with_reducible repeat (first | apply Kd.V_alloc | apply Kd.V_drewN | apply Kd.V_drew)); exact HO_346001.out) (Kd.N_base ho0) hb)
                          have n1_ := Aside0.mk (Kd.N_elder' (by (with_reducible repeat (first | apply Kd.N_alloc | apply Kd.N_drewN | apply Kd.N_drew)); exact HO_346002.out) (Kd.N_base ho0) hb)
                          have n2_ := Aside0.mk (Kd.V_elder' (by (with_reducible repeat (first | apply Kd.V_alloc | apply Kd.V_drewN | apply Kd.V_drew)); exact HO362.out) (Kd.N_base ho0) hb)
                          have n3_ := Aside0.mk (Kd.N_elder' (by (with_reducible repeat (first | apply Kd.N_alloc | apply Kd.N_drewN | apply Kd.N_drew)); exact HO365.out) (Kd.N_base ho0) hb)
                          have n4_ := Aside0.mk (Kd.N_lower (Kd.N_mono (ok' := fun k_ => some k_ ≠ (.slice Ao17 t342.length co17 : Value).ownBlock ∧ some k_ ≠ (.slice Ao77 t363.length co77 : Value).ownBlock ∧ k_ ≠ gb335 ∧ k_ ≠ gb345) ho0 (fun k_ hk_ => ⟨Or.elim hk_ (fun hs_ => Or.elim hs_ (fun hs_ => fun e_ => Nat.not_le.2 hs_ (Kd.N_base HO_346002.out k_ e_.symm)) (fun hs_ => fun e_ => Nat.not_le.2 hs_ (Kd.N_base HO_346002.out k_ e_.symm))) (fun hn_ => (Kd.fresh' (Kd.N_lt (by (with_reducible repeat (first | apply Kd.N_alloc | apply Kd.N_drewN | apply Kd.N_drew)); exact HO_346002.out)) k_ hn_)), Or.elim hk_ (fun hs_ => Or.elim hs_ (fun hs_ => fun e_ => Nat.not_le.2 hs_ (Kd.N_base HO365.out k_ e_.symm)) (fun hs_ => fun e_ => Nat.not_le.2 hs_ (Kd.N_base HO365.out k_ e_.symm))) (fun hn_ => (Kd.fresh' (Kd.N_lt (by (with_reducible repeat (first | apply Kd.N_alloc | apply Kd.N_drewN | apply Kd.N_drew)); exact HO365.out)) k_ hn_)), Or.elim hk_ (fun hs_ => Or.elim hs_ (fun hs_ => fun e_ => Nat.not_le.2 hs_ (by rw [e_]; exact GW335.out)) (fun hs_ => fun e_ => Nat.not_le.2 hs_ (by rw [e_]; exact GW335.out))) (fun hn_ => (Kd.freshB (g := gb335) (o := .cells #[.string a0_0, .slice A0_1 l0_1.length c0_1, .slice A0_2 l0_2.length c0_2] 25 (0, 0)) (by (with_reducible repeat (first | refine blk_drewN ?_ _ | refine blk_drew ?_ | refine blk_alloc ?_ _)); exact BK335.out) k_ hn_)), Or.elim hk_ (fun hs_ => Or.elim hs_ (fun hs_ => fun e_ => Nat.not_le.2 hs_ (by rw [e_]; exact GW345.out)) (fun hs_ => fun e_ => Nat.not_le.2 hs_ (by rw [e_]; exact GW345.out))) (fun hn_ => (Kd.freshB (g := gb345) (o := .cells #[.string t338, .slice Ao16 t339.length co16, .slice Ao17 t342.length co17] 25 (0, 0)) (by (with_reducible repeat (first | refine blk_drewN ?_ _ | refine blk_drew ?_ | refine blk_alloc ?_ _)); exact BK345.out) k_ hn_))⟩)) (below_size (by repeat (first | (with_reducible first | exact HB.out | apply below_alloc | apply pw_below_drewN | apply below_drew1 | refine below_set ?_ GE335.out | refine below_set ?_ GE345.out) | exact HB.out))))
                          have n5_ := Aside0.mk (Kd.V_lower (Kd.V_mono (ok' := fun k_ => some k_ ≠ (v369 : Value).ownBlock ∧ some k_ ≠ (.slice Ao17 t342.length co17 : Value).ownBlock ∧ some k_ ≠ (.slice Ao77 t363.length co77 : Value).ownBlock ∧ k_ ≠ gb335 ∧ k_ ≠ gb345) ho1 (fun k_ hk_ => ⟨hk_.2, Or.elim hk_.1 (fun hs_ => Or.elim hs_ (fun hs_ => fun e_ => Nat.not_le.2 hs_ (Kd.N_base HO_346002.out k_ e_.symm)) (fun hs_ => fun e_ => Nat.not_le.2 hs_ (Kd.N_base HO_346002.out k_ e_.symm))) (fun hn_ => (Kd.fresh' (Kd.N_lt (by (with_reducible repeat (first | apply Kd.N_alloc | apply Kd.N_drewN | apply Kd.N_drew)); exact HO_346002.out)) k_ hn_)), Or.elim hk_.1 (fun hs_ => Or.elim hs_ (fun hs_ => fun e_ => Nat.not_le.2 hs_ (Kd.N_base HO365.out k_ e_.symm)) (fun hs_ => fun e_ => Nat.not_le.2 hs_ (Kd.N_base HO365.out k_ e_.symm))) (fun hn_ => (Kd.fresh' (Kd.N_lt (by (with_reducible repeat (first | apply Kd.N_alloc | apply Kd.N_drewN | apply Kd.N_drew)); exact HO365.out)) k_ hn_)), Or.elim hk_.1 (fun hs_ => Or.elim hs_ (fun hs_ => fun e_ => Nat.not_le.2 hs_ (by rw [e_]; exact GW335.out)) (fun hs_ => fun e_ => Nat.not_le.2 hs_ (by rw [e_]; exact GW335.out))) (fun hn_ => (Kd.freshB (g := gb335) (o := .cells #[.string a0_0, .slice A0_1 l0_1.length c0_1, .slice A0_2 l0_2.length c0_2] 25 (0, 0)) (by (with_reducible repeat (first | refine blk_drewN ?_ _ | refine blk_drew ?_ | refine blk_alloc ?_ _)); exact BK335.out) k_ hn_)), Or.elim hk_.1 (fun hs_ => Or.elim hs_ (fun hs_ => fun e_ => Nat.not_le.2 hs_ (by rw [e_]; exact GW345.out)) (fun hs_ => fun e_ => Nat.not_le.2 hs_ (by rw [e_]; exact GW345.out))) (fun hn_ => (Kd.freshB (g := gb345) (o := .cells #[.string t338, .slice Ao16 t339.length co16, .slice Ao17 t342.length co17] 25 (0, 0)) (by (with_reducible repeat (first | refine blk_drewN ?_ _ | refine blk_drew ?_ | refine blk_alloc ?_ _)); exact BK345.out) k_ hn_))⟩)) (below_size (by repeat (first | (with_reducible first | exact HB.out | apply below_alloc | apply pw_below_drewN | apply below_drew1 | refine below_set ?_ GE335.out | refine below_set ?_ GE345.out) | exact HB.out))))
                          have n6_ := Aside0.mk (blk_below (g := gb335) (o := .cells #[.string a0_0, .slice A0_1 l0_1.length c0_1, .slice A0_2 l0_2.length c0_2] 25 (0, 0)) (by (with_reducible repeat (first | refine blk_drewN ?_ _ | refine blk_drew ?_ | refine blk_alloc ?_ _)); exact BK335.out) hb)
                          have n7_ := Aside0.mk (blk_below (g := gb345) (o := .cells #[.string t338, .slice Ao16 t339.length co16, .slice Ao17 t342.length co17] 25 (0, 0)) (by (with_reducible repeat (first | refine blk_drewN ?_ _ | refine blk_drew ?_ | refine blk_alloc ?_ _)); exact BK345.out) hb)
                          have n8_ := Aside0.mk (below_step (by repeat (first | (with_reducible first | exact HB.out | apply below_alloc | apply pw_below_drewN | apply below_drew1 | refine below_set ?_ GE335.out | refine below_set ?_ GE345.out) | exact HB.out)) hb)
                          clear HO_346001
                          clear HO_346002
                          clear HO362
                          clear HO365
                          clear BK335
                          clear BK345
                          clear HB
                          have HO_346001 := n0_
                          have HO_346002 := n1_
                          have HO362 := n2_
                          have HO365 := n3_
                          have HO370 := n4_
                          have HO373 := n5_
                          have BK335 := n6_
                          have BK345 := n7_
                          have HB := n8_
                          clear n0_ n1_ n2_ n3_ n4_ n5_ n6_ n7_ n8_
                          (try clear hb)
                          (try clear hb2)
                          (try clear hk)
                          (try clear hi)
                          (try clear ho0)
                          (try clear ho1)
                          obtain ⟨Ao80, co80, eo80⟩ := Kd.N_slice HO370.out
                          (first | subst eo80 | (injection eo80 with f1_ f2_ f3_; have f4_ := f1_.symm; have f5_ := f3_.symm; clear f1_ f2_ f3_; subst f4_; subst f5_))
                          obtain ⟨Ao81, co81, eo81⟩ := Kd.V_slice HO373.out
                          (first | subst eo81 | (injection eo81 with f1_ f2_ f3_; have f4_ := f1_.symm; have f5_ := f3_.symm; clear f1_ f2_ f3_; subst f4_; subst f5_))
                          refine hK.out _ _ ⟨(blk_cell BK335.out 0).trans rfl, (blk_cell BK335.out 1).trans rfl, (blk_cell BK335.out 2).trans rfl, (blk_cell BK345.out 0).trans rfl, (blk_cell BK345.out 1).trans rfl, (blk_cell BK345.out 2).trans rfl⟩ (fun hHeld => ?_)
                          clear hK K
                          refine norm_ (a' := ?_) ?_ ?_
                          rotate_left
                          · show Act.put _ (some 98) _ = _
                            simp only [Act.put, List.setIfInBounds_toArray, List.set_cons_zero, List.set_cons_succ, i64_w, i32_w]
                            rfl
                          refine one_ (i := 22) (N := some 99) #[true, true, true, true, true, true, true, true, true, true, true, true, true, true, true, true, true, true, true, true, true, true, true, false, false, false, false, false, false, false, false, false, false, false, false, false, false] rfl rfl (one_of HT_.out (by kernel_rfl)) (by decide) (fun K hK => ?_)
                          refine goes_ Try.func17 (by kernel_rfl) rfl #[.agg #[.string a0_0, .slice A0_1 l0_1.length c0_1, .slice A0_2 l0_2.length c0_2], .agg #[.string t367, .slice Ao80 t368.length co80, .slice Ao81 t371.length co81]] (by rfl) rfl rfl (by (try simp only [List.map_toArray, List.map_cons, List.map_nil]); first | done | rfl | (simp only [List.length_drop, List.length_take]; rfl)) ?_
                          with_reducible refine (itip_Significant.calls a0_0 _ _ l0_1 _ _ l0_2 t367 _ _ t368 _ _ t371 false _ ?side1 ?side2 ?side3 ?side4 ?side5 ?side6 ?side7 ?side8 A66.out).mono ?_
                          (case side1 => repeat (first | exact (Kd.C_below HR0_1.out HB.out) | (with_reducible refine Kd.C_alloc ?_ _) | (with_reducible refine Kd.C_drewN ?_ _) | (with_reducible refine Kd.C_drew ?_)))
                          (case side2 => exact HC0_1.out)
                          (case side3 => repeat (first | exact (Kd.C_below HR0_2.out HB.out) | (with_reducible refine Kd.C_alloc ?_ _) | (with_reducible refine Kd.C_drewN ?_ _) | (with_reducible refine Kd.C_drew ?_)))
                          (case side4 => exact HC0_2.out)
                          (case side5 => repeat (first | exact (Kd.N_reads' HO370.out).2.2 | (with_reducible refine Kd.C_alloc ?_ _) | (with_reducible refine Kd.C_drewN ?_ _) | (with_reducible refine Kd.C_drew ?_)))
                          (case side6 => exact (Kd.N_reads' HO370.out).2.1)
                          (case side7 => repeat (first | exact (Kd.V_reads' HO373.out).2.2 | (with_reducible refine Kd.C_alloc ?_ _) | (with_reducible refine Kd.C_drewN ?_ _) | (with_reducible refine Kd.C_drew ?_)))
                          (case side8 => exact (Kd.V_reads' HO373.out).2.1)
                          rintro e w82 ⟨rfl, hb⟩
                          refine ⟨_, rfl, ?_⟩
                          have n0_ := Aside0.mk (Kd.V_below (by (with_reducible repeat (first | apply Kd.V_alloc | apply Kd.V_drewN | apply Kd.V_drew)); exact HO_346001.out) hb)
                          have n1_ := Aside0.mk (Kd.N_below (by (with_reducible repeat (first | apply Kd.N_alloc | apply Kd.N_drewN | apply Kd.N_drew)); exact HO_346002.out) hb)
                          have n2_ := Aside0.mk (Kd.V_below (by (with_reducible repeat (first | apply Kd.V_alloc | apply Kd.V_drewN | apply Kd.V_drew)); exact HO362.out) hb)
                          have n3_ := Aside0.mk (Kd.N_below (by (with_reducible repeat (first | apply Kd.N_alloc | apply Kd.N_drewN | apply Kd.N_drew)); exact HO365.out) hb)
                          have n4_ := Aside0.mk (Kd.N_below (by (with_reducible repeat (first | apply Kd.N_alloc | apply Kd.N_drewN | apply Kd.N_drew)); exact HO370.out) hb)
                          have n5_ := Aside0.mk (Kd.V_below (by (with_reducible repeat (first | apply Kd.V_alloc | apply Kd.V_drewN | apply Kd.V_drew)); exact HO373.out) hb)
                          have n6_ := Aside0.mk (blk_below (g := gb335) (o := .cells #[.string a0_0, .slice A0_1 l0_1.length c0_1, .slice A0_2 l0_2.length c0_2] 25 (0, 0)) (by (with_reducible repeat (first | refine blk_drewN ?_ _ | refine blk_drew ?_ | refine blk_alloc ?_ _)); exact BK335.out) hb)
                          have n7_ := Aside0.mk (blk_below (g := gb345) (o := .cells #[.string t338, .slice Ao16 t339.length co16, .slice Ao17 t342.length co17] 25 (0, 0)) (by (with_reducible repeat (first | refine blk_drewN ?_ _ | refine blk_drew ?_ | refine blk_alloc ?_ _)); exact BK345.out) hb)
                          have n8_ := Aside0.mk (below_step (by repeat (first | (with_reducible first | exact HB.out | apply below_alloc | apply pw_below_drewN | apply below_drew1 | refine below_set ?_ GE335.out | refine below_set ?_ GE345.out) | exact HB.out)) hb)
                          clear HO_346001
                          clear HO_346002
                          clear HO362
                          clear HO365
                          clear HO370
                          clear HO373
                          clear BK335
                          clear BK345
                          clear HB
                          have HO_346001 := n0_
                          have HO_346002 := n1_
                          have HO362 := n2_
                          have HO365 := n3_
                          have HO370 := n4_
                          have HO373 := n5_
                          have BK335 := n6_
                          have BK345 := n7_
                          have HB := n8_
                          clear n0_ n1_ n2_ n3_ n4_ n5_ n6_ n7_ n8_
                          (try clear hb)
                          (try clear hb2)
                          (try clear hk)
                          (try clear hi)
                          refine hK.out _ _ ⟨(blk_cell BK335.out 0).trans rfl, (blk_cell BK335.out 1).trans rfl, (blk_cell BK335.out 2).trans rfl, (blk_cell BK345.out 0).trans rfl, (blk_cell BK345.out 1).trans rfl, (blk_cell BK345.out 2).trans rfl⟩ (fun hHeld => ?_)
                          clear hK K
                          refine norm_ (a' := ?_) ?_ ?_
                          rotate_left
                          · show Act.put _ (some 99) _ = _
                            simp only [Act.put, List.setIfInBounds_toArray, List.set_cons_zero, List.set_cons_succ, i64_w, i32_w]
                            rfl
                          refine pure_ (i := 23) (N := some 100) (v := ?_) (a' := ?_) #[true, true, true, true, true, true, true, true, true, true, true, true, true, true, true, true, true, true, true, true, true, true, true, true, false, false, false, false, false, false, false, false, false, false, false, false, false] rfl rfl (any_of HT_.out (by kernel_rfl)) (fun _ _ _ h => h) (Or.inl ⟨by rfl, ?_⟩) ?_ ?_
                          rotate_left
                          · intro w'
                            go_simp
                            with_reducible rfl
                          rotate_left
                          · simp only [Act.put, List.setIfInBounds_toArray, List.set_cons_zero, List.set_cons_succ, i64_w, i32_w]
                            rfl
                          refine pure_ (i := 24) (N := some 101) (v := ?_) (a' := ?_) #[true, true, true, true, true, true, true, true, true, true, true, true, true, true, true, true, true, true, true, true, true, true, true, true, true, false, false, false, false, false, false, false, false, false, false, false, false] rfl rfl (any_of HT_.out (by kernel_rfl)) (fun _ _ _ h => h) (Or.inl ⟨by rfl, ?_⟩) ?_ ?_
                          rotate_left
                          · intro w'
                            go_simp
                            with_reducible rfl
                          rotate_left
                          · simp only [Act.put, List.setIfInBounds_toArray, List.set_cons_zero, List.set_cons_succ, i64_w, i32_w]
                            rfl
                          refine pure_ (i := 25) (N := some 102) (v := ?_) (a' := ?_) #[true, true, true, true, true, true, true, true, true, true, true, true, true, true, true, true, true, true, true, true, true, true, true, true, true, true, false, false, false, false, false, false, false, false, false, false, false] rfl rfl (any_of HT_.out (by kernel_rfl)) (fun _ _ _ h => h) (Or.inl ⟨by rfl, ?_⟩) ?_ ?_
                          rotate_left
                          · intro w'
                            go_simp
                            with_reducible rfl
                          rotate_left
                          · simp only [Act.put, List.setIfInBounds_toArray, List.set_cons_zero, List.set_cons_succ, i64_w, i32_w]
                            rfl
                          refine pure_ (i := 28) (N := some 105) (v := ?_) (a' := ?_) #[true, true, true, true, true, true, true, true, true, true, true, true, true, true, true, true, true, true, true, true, true, true, true, true, true, true, false, false, true, false, false, false, false, false, false, false, false] rfl rfl (any_of HT_.out (by kernel_rfl)) (fun _ _ _ h => h) (Or.inl ⟨by rfl, ?_⟩) ?_ ?_
                          rotate_left
                          · intro w'
                            go_simp
                            with_reducible rfl
                          rotate_left
                          · simp only [Act.put, List.setIfInBounds_toArray, List.set_cons_zero, List.set_cons_succ, i64_w, i32_w]
                            rfl
                          refine take_ (i := 26) (N := some 103) (v := ?_) (a' := ?_) #[true, true, true, true, true, true, true, true, true, true, true, true, true, true, true, true, true, true, true, true, true, true, true, true, true, true, true, false, true, false, false, false, false, false, false, false, false] rfl rfl (take_ofW HT_.out HW_.out (by kernel_rfl)) (fun _ _ _ h => h) (Or.inl ⟨by rfl, ?_⟩) hHeld ?_ ?_
                          rotate_left
                          · rintro w' ⟨s0, s1, s2, s3, s4, s5⟩
                            go_simp
                            with_reducible rfl
                          rotate_left
                          · simp only [Act.put, List.setIfInBounds_toArray, List.set_cons_zero, List.set_cons_succ, i64_w, i32_w]
                            rfl
                          refine take_ (i := 27) (N := some 104) (v := ?_) (a' := ?_) #[true, true, true, true, true, true, true, true, true, true, true, true, true, true, true, true, true, true, true, true, true, true, true, true, true, true, true, true, true, false, false, false, false, false, false, false, false] rfl rfl (take_ofW HT_.out HW_.out (by kernel_rfl)) (fun _ _ _ h => h) (Or.inl ⟨by rfl, ?_⟩) hHeld ?_ ?_
                          rotate_left
                          · rintro w' ⟨s0, s1, s2, s3, s4, s5⟩
                            go_simp
                            with_reducible rfl
                          rotate_left
                          · simp only [Act.put, List.setIfInBounds_toArray, List.set_cons_zero, List.set_cons_succ, i64_w, i32_w]
                            rfl
                          refine one_ (i := 29) (N := some 106) #[true, true, true, true, true, true, true, true, true, true, true, true, true, true, true, true, true, true, true, true, true, true, true, true, true, true, true, true, true, true, false, false, false, false, false, false, false] rfl rfl (one_of HT_.out (by kernel_rfl)) (by decide) (fun K hK => ?_)
                          refine goes_ Try.func24 (by kernel_rfl) rfl #[.agg #[.string a0_0, .slice A0_1 l0_1.length c0_1, .slice A0_2 l0_2.length c0_2], .string a1, .string (⟨#[49]⟩ : ByteArray)] (by rfl) rfl rfl (by (try simp only [List.map_toArray, List.map_cons, List.map_nil]); first | done | rfl | (simp only [List.length_drop, List.length_take]; rfl)) ?_
                          with_reducible refine (itip_Delivered.calls kj39 a0_0 (fun k_ => k_ < w.heap.size) _ _ l0_1 (fun k_ => k_ < w.heap.size) _ _ l0_2 a1 (⟨#[49]⟩ : ByteArray) t375 t376 t379 _ ?side1 ?side2 A68.out).mono ?_
                          (case side1 => exact Kd.V_mk HC0_1.out (Kd.F_below (Kd.C_F k45_heap HR0_1.out) (by repeat (first | (with_reducible first | exact HB.out | apply below_alloc | apply pw_below_drewN | apply below_drew1 | refine below_set ?_ GE335.out | refine below_set ?_ GE345.out) | exact HB.out))))
                          (case side2 => exact Kd.V_mk HC0_2.out (Kd.F_below (Kd.C_F k25_heap HR0_2.out) (by repeat (first | (with_reducible first | exact HB.out | apply below_alloc | apply pw_below_drewN | apply below_drew1 | refine below_set ?_ GE335.out | refine below_set ?_ GE345.out) | exact HB.out))))
                          rintro e w83 ⟨v377, v380, rfl, ho0, ho1, hb⟩
                          refine ⟨_, rfl, ?_⟩
                          have n0_ := Aside0.mk (Kd.V_elder' (by (with_reducible repeat (first | apply Kd.V_alloc | apply Kd.V_drewN | apply Kd.V_drew)); exact HO_346001.out) (Kd.N_base ho1) hb)
                          have n1_ := Aside0.mk (Kd.N_elder' (by (with_reducible repeat (first | apply Kd.N_alloc | apply Kd.N_drewN | apply Kd.N_drew)); exact HO_346002.out) (Kd.N_base ho1) hb)
                          have n2_ := Aside0.mk (Kd.V_elder' (by (with_reducible repeat (first | apply Kd.V_alloc | apply Kd.V_drewN | apply Kd.V_drew)); exact HO362.out) (Kd.N_base ho1) hb)
                          have n3_ := Aside0.mk (Kd.N_elder' (by (with_reducible repeat (first | apply Kd.N_alloc | apply Kd.N_drewN | apply Kd.N_drew)); exact HO365.out) (Kd.N_base ho1) hb)
                          have n4_ := Aside0.mk (Kd.N_elder' (by (with_reducible repeat (first | apply Kd.N_alloc | apply Kd.N_drewN | apply Kd.N_drew)); exact HO370.out) (Kd.N_base ho1) hb)
                          have n5_ := Aside0.mk (Kd.V_elder' (by (with_reducible repeat (first | apply Kd.V_alloc | apply Kd.V_drewN | apply Kd.V_drew)); exact HO373.out) (Kd.N_base ho1) hb)
                          have n6_ := Aside0.mk (Kd.V_lower (Kd.V_mono (ok' := fun k_ => some k_ ≠ (v380 : Value).ownBlock ∧ some k_ ≠ (.slice Ao17 t342.length co17 : Value).ownBlock ∧ some k_ ≠ (.slice Ao77 t363.length co77 : Value).ownBlock ∧ some k_ ≠ (.slice Ao80 t368.length co80 : Value).ownBlock ∧ k_ ≠ gb335 ∧ k_ ≠ gb345) ho0 (fun k_ hk_ => ⟨hk_.2, Or.elim hk_.1 (fun hs_ => Or.elim hs_ (fun hs_ => fun e_ => Nat.not_le.2 hs_ (Kd.N_base HO_346002.out k_ e_.symm)) (fun hs_ => fun e_ => Nat.not_le.2 hs_ (Kd.N_base HO_346002.out k_ e_.symm))) (fun hn_ => (Kd.fresh' (Kd.N_lt (by (with_reducible repeat (first | apply Kd.N_alloc | apply Kd.N_drewN | apply Kd.N_drew)); exact HO_346002.out)) k_ hn_)), Or.elim hk_.1 (fun hs_ => Or.elim hs_ (fun hs_ => fun e_ => Nat.not_le.2 hs_ (Kd.N_base HO365.out k_ e_.symm)) (fun hs_ => fun e_ => Nat.not_le.2 hs_ (Kd.N_base HO365.out k_ e_.symm))) (fun hn_ => (Kd.fresh' (Kd.N_lt (by (with_reducible repeat (first | apply Kd.N_alloc | apply Kd.N_drewN | apply Kd.N_drew)); exact HO365.out)) k_ hn_)), Or.elim hk_.1 (fun hs_ => Or.elim hs_ (fun hs_ => fun e_ => Nat.not_le.2 hs_ (Kd.N_base HO370.out k_ e_.symm)) (fun hs_ => fun e_ => Nat.not_le.2 hs_ (Kd.N_base HO370.out k_ e_.symm))) (fun hn_ => (Kd.fresh' (Kd.N_lt (by (with_reducible repeat (first | apply Kd.N_alloc | apply Kd.N_drewN | apply Kd.N_drew)); exact HO370.out)) k_ hn_)), Or.elim hk_.1 (fun hs_ => Or.elim hs_ (fun hs_ => fun e_ => Nat.not_le.2 hs_ (by rw [e_]; exact GW335.out)) (fun hs_ => fun e_ => Nat.not_le.2 hs_ (by rw [e_]; exact GW335.out))) (fun hn_ => (Kd.freshB (g := gb335) (o := .cells #[.string a0_0, .slice A0_1 l0_1.length c0_1, .slice A0_2 l0_2.length c0_2] 25 (0, 0)) (by (with_reducible repeat (first | refine blk_drewN ?_ _ | refine blk_drew ?_ | refine blk_alloc ?_ _)); exact BK335.out) k_ hn_)), Or.elim hk_.1 (fun hs_ => Or.elim hs_ (fun hs_ => fun e_ => Nat.not_le.2 hs_ (by rw [e_]; exact GW345.out)) (fun hs_ => fun e_ => Nat.not_le.2 hs_ (by rw [e_]; exact GW345.out))) (fun hn_ => (Kd.freshB (g := gb345) (o := .cells #[.string t338, .slice Ao16 t339.length co16, .slice Ao17 t342.length co17] 25 (0, 0)) (by (with_reducible repeat (first | refine blk_drewN ?_ _ | refine blk_drew ?_ | refine blk_alloc ?_ _)); exact BK345.out) k_ hn_))⟩)) (below_size (by repeat (first | (with_reducible first | exact HB.out | apply below_alloc | apply pw_below_drewN | apply below_drew1 | refine below_set ?_ GE335.out | refine below_set ?_ GE345.out) | exact HB.out))))
                          have n7_ := Aside0.mk (Kd.N_lower (Kd.N_mono (ok' := fun k_ => some k_ ≠ (.slice Ao17 t342.length co17 : Value).ownBlock ∧ some k_ ≠ (.slice Ao77 t363.length co77 : Value).ownBlock ∧ some k_ ≠ (.slice Ao80 t368.length co80 : Value).ownBlock ∧ k_ ≠ gb335 ∧ k_ ≠ gb345) ho1 (fun k_ hk_ => ⟨Or.elim hk_ (fun hs_ => Or.elim hs_ (fun hs_ => fun e_ => Nat.not_le.2 hs_ (Kd.N_base HO_346002.out k_ e_.symm)) (fun hs_ => fun e_ => Nat.not_le.2 hs_ (Kd.N_base HO_346002.out k_ e_.symm))) (fun hn_ => (Kd.fresh' (Kd.N_lt (by (with_reducible repeat (first | apply Kd.N_alloc | apply Kd.N_drewN | apply Kd.N_drew)); exact HO_346002.out)) k_ hn_)), Or.elim hk_ (fun hs_ => Or.elim hs_ (fun hs_ => fun e_ => Nat.not_le.2 hs_ (Kd.N_base HO365.out k_ e_.symm)) (fun hs_ => fun e_ => Nat.not_le.2 hs_ (Kd.N_base HO365.out k_ e_.symm))) (fun hn_ => (Kd.fresh' (Kd.N_lt (by (with_reducible repeat (first | apply Kd.N_alloc | apply Kd.N_drewN | apply Kd.N_drew)); exact HO365.out)) k_ hn_)), Or.elim hk_ (fun hs_ => Or.elim hs_ (fun hs_ => fun e_ => Nat.not_le.2 hs_ (Kd.N_base HO370.out k_ e_.symm)) (fun hs_ => fun e_ => Nat.not_le.2 hs_ (Kd.N_base HO370.out k_ e_.symm))) (fun hn_ => (Kd.fresh' (Kd.N_lt (by (with_reducible repeat (first | apply Kd.N_alloc | apply Kd.N_drewN | apply Kd.N_drew)); exact HO370.out)) k_ hn_)), Or.elim hk_ (fun hs_ => Or.elim hs_ (fun hs_ => fun e_ => Nat.not_le.2 hs_ (by rw [e_]; exact GW335.out)) (fun hs_ => fun e_ => Nat.not_le.2 hs_ (by rw [e_]; exact GW335.out))) (fun hn_ => (Kd.freshB (g := gb335) (o := .cells #[.string a0_0, .slice A0_1 l0_1.length c0_1, .slice A0_2 l0_2.length c0_2] 25 (0, 0)) (by (with_reducible repeat (first | refine blk_drewN ?_ _ | refine blk_drew ?_ | refine blk_alloc ?_ _)); exact BK335.out) k_ hn_)), Or.elim hk_ (fun hs_ => Or.elim hs_ (fun hs_ => fun e_ => Nat.not_le.2 hs_ (by rw [e_]; exact GW345.out)) (fun hs_ => fun e_ => Nat.not_le.2 hs_ (by rw [e_]; exact GW345.out))) (fun hn_ => (Kd.freshB (g := gb345) (o := .cells #[.string t338, .slice Ao16 t339.length co16, .slice Ao17 t342.length co17] 25 (0, 0)) (by (with_reducible repeat (first | refine blk_drewN ?_ _ | refine blk_drew ?_ | refine blk_alloc ?_ _)); exact BK345.out) k_ hn_))⟩)) (below_size (by repeat (first | (with_reducible first | exact HB.out | apply below_alloc | apply pw_below_drewN | apply below_drew1 | refine below_set ?_ GE335.out | refine below_set ?_ GE345.out) | exact HB.out))))
                          have n8_ := Aside0.mk (blk_below (g := gb335) (o := .cells #[.string a0_0, .slice A0_1 l0_1.length c0_1, .slice A0_2 l0_2.length c0_2] 25 (0, 0)) (by (with_reducible repeat (first | refine blk_drewN ?_ _ | refine blk_drew ?_ | refine blk_alloc ?_ _)); exact BK335.out) hb)
                          have n9_ := Aside0.mk (blk_below (g := gb345) (o := .cells #[.string t338, .slice Ao16 t339.length co16, .slice Ao17 t342.length co17] 25 (0, 0)) (by (with_reducible repeat (first | refine blk_drewN ?_ _ | refine blk_drew ?_ | refine blk_alloc ?_ _)); exact BK345.out) hb)
                          have n10_ := Aside0.mk (below_step (by repeat (first | (with_reducible first | exact HB.out | apply below_alloc | apply pw_below_drewN | apply below_drew1 | refine below_set ?_ GE335.out | refine below_set ?_ GE345.out) | exact HB.out)) hb)
                          clear HO_346001
                          clear HO_346002
                          clear HO362
                          clear HO365
                          clear HO370
                          clear HO373
                          clear BK335
                          clear BK345
                          clear HB
                          have HO_346001 := n0_
                          have HO_346002 := n1_
                          have HO362 := n2_
                          have HO365 := n3_
                          have HO370 := n4_
                          have HO373 := n5_
                          have HO378 := n6_
                          have HO381 := n7_
                          have BK335 := n8_
                          have BK345 := n9_
                          have HB := n10_
                          clear n0_ n1_ n2_ n3_ n4_ n5_ n6_ n7_ n8_ n9_ n10_
                          (try clear hb)
                          (try clear hb2)
                          (try clear hk)
                          (try clear hi)
                          (try clear ho0)
                          (try clear ho1)
                          obtain ⟨Ao84, co84, eo84⟩ := Kd.V_slice HO378.out
                          (first | subst eo84 | (injection eo84 with f1_ f2_ f3_; have f4_ := f1_.symm; have f5_ := f3_.symm; clear f1_ f2_ f3_; subst f4_; subst f5_))
                          obtain ⟨Ao85, co85, eo85⟩ := Kd.N_slice HO381.out
                          (first | subst eo85 | (injection eo85 with f1_ f2_ f3_; have f4_ := f1_.symm; have f5_ := f3_.symm; clear f1_ f2_ f3_; subst f4_; subst f5_))
                          refine hK.out _ _ ⟨(blk_cell BK335.out 0).trans rfl, (blk_cell BK335.out 1).trans rfl, (blk_cell BK335.out 2).trans rfl, (blk_cell BK345.out 0).trans rfl, (blk_cell BK345.out 1).trans rfl, (blk_cell BK345.out 2).trans rfl⟩ (fun hHeld => ?_)
                          clear hK K
                          refine norm_ (a' := ?_) ?_ ?_
                          rotate_left
                          · show Act.put _ (some 106) _ = _
                            simp only [Act.put, List.setIfInBounds_toArray, List.set_cons_zero, List.set_cons_succ, i64_w, i32_w]
                            rfl
                          refine one_ (i := 30) (N := some 107) #[true, true, true, true, true, true, true, true, true, true, true, true, true, true, true, true, true, true, true, true, true, true, true, true, true, true, true, true, true, true, true, false, false, false, false, false, false] rfl rfl (one_of HT_.out (by kernel_rfl)) (by decide) (fun K hK => ?_)
                          refine goes_ Try.func17 (by kernel_rfl) rfl #[.agg #[.string a0_0, .slice A0_1 l0_1.length c0_1, .slice A0_2 l0_2.length c0_2], .agg #[.string t375, .slice Ao84 t376.length co84, .slice Ao85 t379.length co85]] (by rfl) rfl rfl (by (try simp only [List.map_toArray, List.map_cons, List.map_nil]); first | done | rfl | (simp only [List.length_drop, List.length_take]; rfl)) ?_
                          with_reducible refine (itip_Significant.calls a0_0 _ _ l0_1 _ _ l0_2 t375 _ _ t376 _ _ t379 false _ ?side1 ?side2 ?side3 ?side4 ?side5 ?side6 ?side7 ?side8 A69.out).mono ?_
                          (case side1 => repeat (first | exact (Kd.C_below HR0_1.out HB.out) | (with_reducible refine Kd.C_alloc ?_ _) | (with_reducible refine Kd.C_drewN ?_ _) | (with_reducible refine Kd.C_drew ?_)))
                          (case side2 => exact HC0_1.out)
                          (case side3 => repeat (first | exact (Kd.C_below HR0_2.out HB.out) | (with_reducible refine Kd.C_alloc ?_ _) | (with_reducible refine Kd.C_drewN ?_ _) | (with_reducible refine Kd.C_drew ?_)))
                          (case side4 => exact HC0_2.out)
                          (case side5 => repeat (first | exact (Kd.V_reads' HO378.out).2.2 | (with_reducible refine Kd.C_alloc ?_ _) | (with_reducible refine Kd.C_drewN ?_ _) | (with_reducible refine Kd.C_drew ?_)))
                          (case side6 => exact (Kd.V_reads' HO378.out).2.1)
                          (case side7 => repeat (first | exact (Kd.N_reads' HO381.out).2.2 | (with_reducible refine Kd.C_alloc ?_ _) | (with_reducible refine Kd.C_drewN ?_ _) | (with_reducible refine Kd.C_drew ?_)))
                          (case side8 => exact (Kd.N_reads' HO381.out).2.1)
                          rintro e w86 ⟨rfl, hb⟩
                          refine ⟨_, rfl, ?_⟩
                          have n0_ := Aside0.mk (Kd.V_below (by (with_reducible repeat (first | apply Kd.V_alloc | apply Kd.V_drewN | apply Kd.V_drew)); exact HO_346001.out) hb)
                          have n1_ := Aside0.mk (Kd.N_below (by (with_reducible repeat (first | apply Kd.N_alloc | apply Kd.N_drewN | apply Kd.N_drew)); exact HO_346002.out) hb)
                          have n2_ := Aside0.mk (Kd.V_below (by (with_reducible repeat (first | apply Kd.V_alloc | apply Kd.V_drewN | apply Kd.V_drew)); exact HO362.out) hb)
                          have n3_ := Aside0.mk (Kd.N_below (by (with_reducible repeat (first | apply Kd.N_alloc | apply Kd.N_drewN | apply Kd.N_drew)); exact HO365.out) hb)
                          have n4_ := Aside0.mk (Kd.N_below (by (with_reducible repeat (first | apply Kd.N_alloc | apply Kd.N_drewN | apply Kd.N_drew)); exact HO370.out) hb)
                          have n5_ := Aside0.mk (Kd.V_below (by (with_reducible repeat (first | apply Kd.V_alloc | apply Kd.V_drewN | apply Kd.V_drew)); exact HO373.out) hb)
                          have n6_ := Aside0.mk (Kd.V_below (by (with_reducible repeat (first | apply Kd.V_alloc | apply Kd.V_drewN | apply Kd.V_drew)); exact HO378.out) hb)
                          have n7_ := Aside0.mk (Kd.N_below (by (with_reducible repeat (first | apply Kd.N_alloc | apply Kd.N_drewN | apply Kd.N_drew)); exact HO381.out) hb)
                          have n8_ := Aside0.mk (blk_below (g := gb335) (o := .cells #[.string a0_0, .slice A0_1 l0_1.length c0_1, .slice A0_2 l0_2.length c0_2] 25 (0, 0)) (by (with_reducible repeat (first | refine blk_drewN ?_ _ | refine blk_drew ?_ | refine blk_alloc ?_ _)); exact BK335.out) hb)
                          have n9_ := Aside0.mk (blk_below (g := gb345) (o := .cells #[.string t338, .slice Ao16 t339.length co16, .slice Ao17 t342.length co17] 25 (0, 0)) (by (with_reducible repeat (first | refine blk_drewN ?_ _ | refine blk_drew ?_ | refine blk_alloc ?_ _)); exact BK345.out) hb)
                          have n10_ := Aside0.mk (below_step (by repeat (first | (with_reducible first | exact HB.out | apply below_alloc | apply pw_below_drewN | apply below_drew1 | refine below_set ?_ GE335.out | refine below_set ?_ GE345.out) | exact HB.out)) hb)
                          clear HO_346001
                          clear HO_346002
                          clear HO362
                          clear HO365
                          clear HO370
                          clear HO373
                          clear HO378
                          clear HO381
                          clear BK335
                          clear BK345
                          clear HB
                          have HO_346001 := n0_
                          have HO_346002 := n1_
                          have HO362 := n2_
                          have HO365 := n3_
                          have HO370 := n4_
                          have HO373 := n5_
                          have HO378 := n6_
                          have HO381 := n7_
                          have BK335 := n8_
                          have BK345 := n9_
                          have HB := n10_
                          clear n0_ n1_ n2_ n3_ n4_ n5_ n6_ n7_ n8_ n9_ n10_
                          (try clear hb)
                          (try clear hb2)
                          (try clear hk)
                          (try clear hi)
                          refine hK.out _ _ ⟨(blk_cell BK335.out 0).trans rfl, (blk_cell BK335.out 1).trans rfl, (blk_cell BK335.out 2).trans rfl, (blk_cell BK345.out 0).trans rfl, (blk_cell BK345.out 1).trans rfl, (blk_cell BK345.out 2).trans rfl⟩ (fun hHeld => ?_)
                          clear hK K
                          refine norm_ (a' := ?_) ?_ ?_
                          rotate_left
                          · show Act.put _ (some 107) _ = _
                            simp only [Act.put, List.setIfInBounds_toArray, List.set_cons_zero, List.set_cons_succ, i64_w, i32_w]
                            rfl
                          refine pure_ (i := 31) (N := some 108) (v := ?_) (a' := ?_) #[true, true, true, true, true, true, true, true, true, true, true, true, true, true, true, true, true, true, true, true, true, true, true, true, true, true, true, true, true, true, true, true, false, false, false, false, false] rfl rfl (any_of HT_.out (by kernel_rfl)) (fun _ _ _ h => h) (Or.inl ⟨by rfl, ?_⟩) ?_ ?_
                          rotate_left
                          · intro w'
                            go_simp
                            with_reducible rfl
                          rotate_left
                          · simp only [Act.put, List.setIfInBounds_toArray, List.set_cons_zero, List.set_cons_succ, i64_w, i32_w]
                            rfl
                          refine pure_ (i := 32) (N := some 109) (v := ?_) (a' := ?_) #[true, true, true, true, true, true, true, true, true, true, true, true, true, true, true, true, true, true, true, true, true, true, true, true, true, true, true, true, true, true, true, true, true, false, false, false, false] rfl rfl (any_of HT_.out (by kernel_rfl)) (fun _ _ _ h => h) (Or.inl ⟨by rfl, ?_⟩) ?_ ?_
                          rotate_left
                          · intro w'
                            go_simp
                            with_reducible rfl
                          rotate_left
                          · simp only [Act.put, List.setIfInBounds_toArray, List.set_cons_zero, List.set_cons_succ, i64_w, i32_w]
                            rfl
                          refine pure_ (i := 33) (N := some 110) (v := ?_) (a' := ?_) #[true, true, true, true, true, true, true, true, true, true, true, true, true, true, true, true, true, true, true, true, true, true, true, true, true, true, true, true, true, true, true, true, true, true, false, false, false] rfl rfl (any_of HT_.out (by kernel_rfl)) (fun _ _ _ h => h) (Or.inl ⟨by rfl, ?_⟩) ?_ ?_
                          rotate_left
                          · intro w'
                            go_simp
                            with_reducible rfl
                          rotate_left
                          · simp only [Act.put, List.setIfInBounds_toArray, List.set_cons_zero, List.set_cons_succ, i64_w, i32_w]
                            rfl
                          refine one_ (i := 34) (N := some 111) #[true, true, true, true, true, true, true, true, true, true, true, true, true, true, true, true, true, true, true, true, true, true, true, true, true, true, true, true, true, true, true, true, true, true, true, false, false] rfl rfl (one_of HT_.out (by kernel_rfl)) (by decide) (fun K hK => ?_)
                          refine goes_ Try.func7 (by kernel_rfl) rfl #[] (by rfl) rfl rfl (by (try simp only [List.map_toArray, List.map_cons, List.map_nil]); first | done | rfl | (simp only [List.length_drop, List.length_take]; rfl)) ?_
                          with_reducible refine (almanaclaw26_awake.calls  t383 _ A71.out).mono ?_
                          rintro e w87 ⟨rfl, hb⟩
                          refine ⟨_, rfl, ?_⟩
                          have n0_ := Aside0.mk (Kd.V_below (by (with_reducible repeat (first | apply Kd.V_alloc | apply Kd.V_drewN | apply Kd.V_drew)); exact HO_346001.out) hb)
                          have n1_ := Aside0.mk (Kd.N_below (by (with_reducible repeat (first | apply Kd.N_alloc | apply Kd.N_drewN | apply Kd.N_drew)); exact HO_346002.out) hb)
                          have n2_ := Aside0.mk (Kd.V_below (by (with_reducible repeat (first | apply Kd.V_alloc | apply Kd.V_drewN | apply Kd.V_drew)); exact HO362.out) hb)
                          have n3_ := Aside0.mk (Kd.N_below (by (with_reducible repeat (first | apply Kd.N_alloc | apply Kd.N_drewN | apply Kd.N_drew)); exact HO365.out) hb)
                          have n4_ := Aside0.mk (Kd.N_below (by (with_reducible repeat (first | apply Kd.N_alloc | apply Kd.N_drewN | apply Kd.N_drew)); exact HO370.out) hb)
                          have n5_ := Aside0.mk (Kd.V_below (by (with_reducible repeat (first | apply Kd.V_alloc | apply Kd.V_drewN | apply Kd.V_drew)); exact HO373.out) hb)
                          have n6_ := Aside0.mk (Kd.V_below (by (with_reducible repeat (first | apply Kd.V_alloc | apply Kd.V_drewN | apply Kd.V_drew)); exact HO378.out) hb)
                          have n7_ := Aside0.mk (Kd.N_below (by (with_reducible repeat (first | apply Kd.N_alloc | apply Kd.N_drewN | apply Kd.N_drew)); exact HO381.out) hb)
                          have n8_ := Aside0.mk (blk_below (g := gb335) (o := .cells #[.string a0_0, .slice A0_1 l0_1.length c0_1, .slice A0_2 l0_2.length c0_2] 25 (0, 0)) (by (with_reducible repeat (first | refine blk_drewN ?_ _ | refine blk_drew ?_ | refine blk_alloc ?_ _)); exact BK335.out) hb)
                          have n9_ := Aside0.mk (blk_below (g := gb345) (o := .cells #[.string t338, .slice Ao16 t339.length co16, .slice Ao17 t342.length co17] 25 (0, 0)) (by (with_reducible repeat (first | refine blk_drewN ?_ _ | refine blk_drew ?_ | refine blk_alloc ?_ _)); exact BK345.out) hb)
                          have n10_ := Aside0.mk (below_step (by repeat (first | (with_reducible first | exact HB.out | apply below_alloc | apply pw_below_drewN | apply below_drew1 | refine below_set ?_ GE335.out | refine below_set ?_ GE345.out) | exact HB.out)) hb)
                          clear HO_346001
                          clear HO_346002
                          clear HO362
                          clear HO365
                          clear HO370
                          clear HO373
                          clear HO378
                          clear HO381
                          clear BK335
                          clear BK345
                          clear HB
                          have HO_346001 := n0_
                          have HO_346002 := n1_
                          have HO362 := n2_
                          have HO365 := n3_
                          have HO370 := n4_
                          have HO373 := n5_
                          have HO378 := n6_
                          have HO381 := n7_
                          have BK335 := n8_
                          have BK345 := n9_
                          have HB := n10_
                          clear n0_ n1_ n2_ n3_ n4_ n5_ n6_ n7_ n8_ n9_ n10_
                          (try clear hb)
                          (try clear hb2)
                          (try clear hk)
                          (try clear hi)
                          refine hK.out _ _ ⟨(blk_cell BK335.out 0).trans rfl, (blk_cell BK335.out 1).trans rfl, (blk_cell BK335.out 2).trans rfl, (blk_cell BK345.out 0).trans rfl, (blk_cell BK345.out 1).trans rfl, (blk_cell BK345.out 2).trans rfl⟩ (fun hHeld => ?_)
                          clear hK K
                          refine norm_ (a' := ?_) ?_ ?_
                          rotate_left
                          · show Act.put _ (some 111) _ = _
                            simp only [Act.put, List.setIfInBounds_toArray, List.set_cons_zero, List.set_cons_succ, i64_w, i32_w]
                            rfl
                          refine pure_ (i := 35) (N := some 112) (v := ?_) (a' := ?_) #[true, true, true, true, true, true, true, true, true, true, true, true, true, true, true, true, true, true, true, true, true, true, true, true, true, true, true, true, true, true, true, true, true, true, true, true, false] rfl rfl (any_of HT_.out (by kernel_rfl)) (fun _ _ _ h => h) (Or.inl ⟨by rfl, ?_⟩) ?_ ?_
                          rotate_left
                          · intro w'
                            go_simp
                            with_reducible rfl
                          rotate_left
                          · simp only [Act.put, List.setIfInBounds_toArray, List.set_cons_zero, List.set_cons_succ, i64_w, i32_w]
                            rfl
                          refine pure_ (i := 36) (N := some 6) (v := ?_) (a' := ?_) #[true, true, true, true, true, true, true, true, true, true, true, true, true, true, true, true, true, true, true, true, true, true, true, true, true, true, true, true, true, true, true, true, true, true, true, true, true] rfl rfl (any_of HT_.out (by kernel_rfl)) (fun _ _ _ h => h) (Or.inl ⟨by rfl, ?_⟩) ?_ ?_
                          rotate_left
                          · intro w'
                            go_simp
                            with_reducible rfl
                          rotate_left
                          · simp only [Act.put, List.setIfInBounds_toArray, List.set_cons_zero, List.set_cons_succ, i64_w, i32_w]
                            rfl
                          refine done_ (done_of HT_.out (by kernel_rfl)) ?_
                          try go_wp2
                          go_ret
                          exact ⟨by first | rfl | (simp [errW_none, errW_some] <;> rfl) | (simp [*, errW_none, errW_some] <;> rfl), by repeat (first | (with_reducible first | exact HB.out | apply below_alloc | apply pw_below_drewN | apply below_drew1 | refine below_set ?_ GE335.out | refine below_set ?_ GE345.out) | exact HB.out)⟩
  · replace c5 := Bool.eq_false_iff.mpr c5
    subst c5
    have H1 : ((almanaclaw26_awake.f).bind fun t337 => (some t337)) = some r := by rw [if_neg (show ¬ (false = true) by decide)] at H; exact H
    clear H
    have H := H1
    clear H1
    replace H := Option.bind_eq_some_iff.mp H
    obtain ⟨t337, A880, H⟩ := H
    replace H : (some t337) = some r := H
    have A88 := Aside0.mk A880
    clear A880
    obtain rfl := Option.some.inj H
    go_enter Try.func4, Try.ntmps4
    go_wp2_with (first | ((with_reducible refine gate_dst (N := 3) rfl ?_); refine box_event ?hg (N := 3) ?hd (cs := #[.string a0_0, .slice A0_1 l0_1.length c0_1, .slice A0_2 l0_2.length c0_2]) (t := 25) ?hr ?_; (case hd => rfl); (case hg => rfl); (case hr => first | (go_simp; done) | (go_simp; rfl)); intro gb335 hg w89 hbox hb; have n0_ := Aside0.mk (below_step (by repeat (first | (with_reducible first | exact HB.out | apply below_alloc | apply pw_below_drewN | apply below_drew1) | exact HB.out)) hb); have n1_ := Aside0.mk (hbox); have n2_ := Aside0.mk ((by rw [hg]; exact (below_size (by repeat (first | (with_reducible first | exact HB.out | apply below_alloc | apply pw_below_drewN | apply below_drew1) | exact HB.out))) : w.heap.size ≤ gb335)); have n3_ := Aside0.mk ((by rw [hg]; exact (below_size (by repeat (first | (with_reducible first | exact HB.out | apply below_alloc | apply pw_below_drewN | apply below_drew1) | exact HB.out))) : w.heap.size ≤ gb335)); clear HB; have HB := n0_; have BK335 := n1_; have GW335 := n2_; have GE335 := n3_; clear n0_ n1_ n2_ n3_; clear hb hbox hg; have hcz90_0 : w89.cell? ⟨gb335, 0, none⟩ = some (.string a0_0) := (blk_cell BK335.out 0).trans rfl; have hcz90_1 : w89.cell? ⟨gb335, 1, none⟩ = some (.slice A0_1 l0_1.length c0_1) := (blk_cell BK335.out 1).trans rfl; have hcz90_2 : w89.cell? ⟨gb335, 2, none⟩ = some (.slice A0_2 l0_2.length c0_2) := (blk_cell BK335.out 2).trans rfl; have hfz90_0 := blk_frozen BK335.out 0; have hfz90_1 := blk_frozen BK335.out 1; have hfz90_2 := blk_frozen BK335.out 2) | ((with_reducible refine gate_callee (f := 6) rfl ?_); refine goesL_ (some 16) rfl rfl Try.func6 (by kernel_rfl) rfl #[.agg #[.string a0_0, .slice A0_1 l0_1.length c0_1, .slice A0_2 l0_2.length c0_2]] rfl (by (try simp only [List.map_toArray, List.map_cons, List.map_nil]); first | done | rfl | (simp only [List.length_drop, List.length_take]; rfl)) ?_; (with_reducible refine (almanacref12_Light.calls k a0_0 _ _ l0_1 _ _ l0_2 false _ ?side1 ?side2 ?side3 ?side4 A4.out).mono ?_); (case side1 => repeat (first | exact (Kd.C_below HR0_1.out HB.out) | (with_reducible refine Kd.C_alloc ?_ _) | (with_reducible refine Kd.C_drewN ?_ _) | (with_reducible refine Kd.C_drew ?_))); (case side2 => exact HC0_1.out); (case side3 => repeat (first | exact (Kd.C_below HR0_2.out HB.out) | (with_reducible refine Kd.C_alloc ?_ _) | (with_reducible refine Kd.C_drewN ?_ _) | (with_reducible refine Kd.C_drew ?_))); (case side4 => exact HC0_2.out); rintro e w91 ⟨rfl, hb⟩; refine ⟨_, rfl, ?_⟩; have n0_ := Aside0.mk (blk_below (g := gb335) (o := .cells #[.string a0_0, .slice A0_1 l0_1.length c0_1, .slice A0_2 l0_2.length c0_2] 25 (0, 0)) (by (with_reducible repeat (first | refine blk_drewN ?_ _ | refine blk_drew ?_ | refine blk_alloc ?_ _)); exact BK335.out) hb); have n1_ := Aside0.mk (below_step (by repeat (first | (with_reducible first | exact HB.out | apply below_alloc | apply pw_below_drewN | apply below_drew1 | refine below_set ?_ GE335.out) | exact HB.out)) hb); clear BK335; clear HB; have BK335 := n0_; have HB := n1_; clear n0_ n1_; (try clear hb); (try clear hb2); (try clear hk); (try clear hi)) | ((with_reducible refine gate_callee (f := 7) rfl ?_); refine goesL_ (some 18) rfl rfl Try.func7 (by kernel_rfl) rfl #[] rfl (by (try simp only [List.map_toArray, List.map_cons, List.map_nil]); first | done | rfl | (simp only [List.length_drop, List.length_take]; rfl)) ?_; (with_reducible refine (almanaclaw26_awake.calls  t337 _ A88.out).mono ?_); rintro e w92 ⟨rfl, hb⟩; refine ⟨_, rfl, ?_⟩; have n0_ := Aside0.mk (blk_below (g := gb335) (o := .cells #[.string a0_0, .slice A0_1 l0_1.length c0_1, .slice A0_2 l0_2.length c0_2] 25 (0, 0)) (by (with_reducible repeat (first | refine blk_drewN ?_ _ | refine blk_drew ?_ | refine blk_alloc ?_ _)); exact BK335.out) hb); have n1_ := Aside0.mk (below_step (by repeat (first | (with_reducible first | exact HB.out | apply below_alloc | apply pw_below_drewN | apply below_drew1 | refine below_set ?_ GE335.out) | exact HB.out)) hb); clear BK335; clear HB; have BK335 := n0_; have HB := n1_; clear n0_ n1_; (try clear hb); (try clear hb2); (try clear hk); (try clear hi)))
    go_ret
    exact ⟨by first | rfl | (simp [errW_none, errW_some] <;> rfl) | (simp [*, errW_none, errW_some] <;> rfl), by repeat (first | (with_reducible first | exact HB.out | apply below_alloc | apply pw_below_drewN | apply below_drew1 | refine below_set ?_ GE335.out) | exact HB.out)⟩
end Go.Proofs.Ytebmbfobmakheaa.PD
namespace Go.Proofs.Ytebmbfobmakheaa.PD
open Go.RowKit Go.Proofs.YtebmbfobmakheaaW.PrintWords Go.Proofs.YtebmbfobmakheaaW.PrintLast Go.Proofs.YtebmbfobmakheaaW.PrintMore
set_option linter.unusedVariables false
set_option linter.unusedSimpArgs false
theorem alike_user (a b : ByteArray) (ha : shortB a = true) (hb : shortB b = true) : alikeB a b = ((a.toList == b.toList) || ((userP a).2 && ((userP b).2 && ((userP a).1.toList == (userP b).1.toList)))) := by
  have h := alike_val a b ha hb
  unfold itip_alike.f at h
  rw [show (1 : Nat) = 0 + 1 from rfl, user_val 0 a ha, user_val 0 b hb, Option.bind_some, Option.bind_some] at h
  by_cases h0 : a.toList = b.toList
  · rw [if_pos h0] at h
    rw [← Option.some.inj h, beq_iff_eq.2 h0, Bool.true_or]
  · rw [if_neg h0] at h
    rw [beq_eq_false_iff_ne.2 h0, Bool.false_or]
    cases hx : (userP a).2 with
    | false => rw [hx, if_neg (by simp)] at h; rw [← Option.some.inj h]; rfl
    | true =>
      rw [hx, if_pos rfl] at h
      cases hy : (userP b).2 with
      | false => rw [hy, if_neg (by simp)] at h; rw [← Option.some.inj h]; rfl
      | true => rw [hy, if_pos rfl] at h; rw [← Option.some.inj h]; rfl
theorem alike_trans {a b c : ByteArray} (ha : shortB a = true) (hb : shortB b = true) (hc : shortB c = true) (h1 : alikeB a b = true) (h2 : alikeB b c = true) : alikeB a c = true := by
  rw [alike_user _ _ ha hb] at h1
  rw [alike_user _ _ hb hc] at h2
  rw [alike_user _ _ ha hc]
  simp only [Bool.or_eq_true, Bool.and_eq_true, beq_iff_eq] at h1 h2 ⊢
  rcases h1 with h1 | ⟨x1, x2, x3⟩
  · obtain rfl := toList_inj h1
    exact h2
  · rcases h2 with h2 | ⟨y1, y2, y3⟩
    · obtain rfl := toList_inj h2
      exact .inr ⟨x1, x2, x3⟩
    · exact .inr ⟨x1, y2, x3.trans y3⟩
theorem addA_any (addr : ByteArray) (hadr : shortB addr = true) : ∀ (ps : List S45) (out : List ByteArray), (∀ p ∈ ps, shortB p.f2 = true) → (∀ y ∈ out, shortB y = true) → (ps.foldl addA out).any (fun y => alikeB y addr) = (out.any (fun y => alikeB y addr) || ps.any fun p => alikeB p.f2 addr)
  | [], out, _, _ => by simp
  | p :: r, out, hp, ho => by
    have hps := hp p List.mem_cons_self
    rw [List.foldl_cons, addA_any addr hadr r (addA out p) (fun q hq => hp q (List.mem_cons_of_mem _ hq)) (addA_short ho hps), List.any_cons, ← Bool.or_assoc]
    congr 1
    unfold addA
    cases hb : (out.any fun a => alikeB a p.f2) with
    | false => rw [if_neg (by simp), List.any_append, List.any_cons, List.any_nil, Bool.or_false]
    | true =>
      rw [if_pos rfl]
      cases hq : alikeB p.f2 addr with
      | false => rw [Bool.or_false]
      | true =>
        obtain ⟨y, hy, hyp⟩ := List.any_eq_true.1 hb
        rw [Bool.or_true, List.any_eq_true]
        exact ⟨y, hy, alike_trans (ho y hy) hps hadr hyp hq⟩
theorem attN_list : attN.toList = ([65, 84, 84, 69, 78, 68, 69, 69] : List UInt8) := by decide +kernel
theorem oth_chg (G : List S45 → List S45) : ∀ l : List S25, oth (chgP G l) = (oth l).map (chg1 G)
  | [] => rfl
  | x :: r => by
    have hx : isTz (chg1 G x).f0 = isTz x.f0 := by unfold chg1; split <;> rfl
    have hc : chgP G (x :: r) = chg1 G x :: chgP G r := rfl
    rw [hc]
    cases h : isTz x.f0 with
    | true => rw [oth_tz (hx.trans h), oth_tz h, oth_chg G r]
    | false => rw [oth_no (hx.trans h), oth_no h, oth_chg G r]; rfl
theorem chg1_no {G : List S45 → List S45} {x : S25} (h : isTz x.f0 = false) : (chg1 G x).f1 = G x.f1 := by unfold chg1; rw [if_neg (by rw [h]; simp)]
theorem oth_tzno {l : List S25} {x : S25} (h : x ∈ oth l) : isTz x.f0 = false := by
  have := (List.mem_filter.1 h).2
  cases hx : isTz x.f0 with
  | false => rfl
  | true => rw [hx] at this; simp at this
theorem rowsP_chg (G : List S45 → List S45) (hG : ∀ l, toldP (G l) = toldP l) (l : List S25) : rowsP (chgP G l) = rowsP l := by
  rw [rowsP_oth, rowsP_oth, oth_chg, List.map_map]
  refine List.map_congr_left fun x hx => ?_
  show toldP (chg1 G x).f1 = toldP x.f1
  rw [chg1_no (oth_tzno hx), hG]
theorem told_noatt : ∀ n ∈ toldN, n.toList ≠ ([65, 84, 84, 69, 78, 68, 69, 69] : List UInt8) := by decide +kernel
theorem byN_only (addr : ByteArray) (l : List S45) (n : ByteArray) (hn : n.toList ≠ ([65, 84, 84, 69, 78, 68, 69, 69] : List UInt8)) : byN (onlyF addr l) n = byN l n := by
  unfold byN onlyF
  rw [List.filter_filter]
  refine List.filter_congr fun x _ => ?_
  cases h : (x.f0.toList == n.toList) with
  | false => rfl
  | true =>
    have : isAtt x.f0 = false := by unfold isAtt; rw [beq_iff_eq.1 h]; exact beq_eq_false_iff_ne.2 hn
    rw [this]; rfl
theorem set1_f0 (addr name value : ByteArray) (x : S45) : (set1 addr name value x).f0 = x.f0 ∧ (set1 addr name value x).f2 = x.f2 := by unfold set1; split <;> exact ⟨rfl, rfl⟩
theorem setF_map (addr name value : ByteArray) (l : List S45) : setF addr name value l = l.map (set1 addr name value) := rfl
theorem byN_set (addr name value : ByteArray) (l : List S45) (n : ByteArray) : byN (setF addr name value l) n = (byN l n).map (set1 addr name value) := by
  unfold byN
  rw [setF_map, List.filter_map]
  congr 1
  refine List.filter_congr fun x _ => ?_
  show ((set1 addr name value x).f0.toList == n.toList) = _
  rw [(set1_f0 addr name value x).1]
theorem told_only (addr : ByteArray) (l : List S45) : toldP (onlyF addr l) = toldP l := by
  unfold toldP
  have : ∀ ns : List ByteArray, (∀ n ∈ ns, n.toList ≠ ([65, 84, 84, 69, 78, 68, 69, 69] : List UInt8)) → ns.flatMap (byN (onlyF addr l)) = ns.flatMap (byN l) := by
    intro ns h
    induction ns with
    | nil => rfl
    | cons n r ih => rw [List.flatMap_cons, List.flatMap_cons, byN_only addr l n (h n List.mem_cons_self), ih (fun m hm => h m (List.mem_cons_of_mem _ hm))]
  exact this toldN told_noatt
theorem told_set (addr name value : ByteArray) (l : List S45) : toldP (setF addr name value l) = toldP l := by
  unfold toldP
  have : ∀ ns : List ByteArray, (∀ n ∈ ns, n.toList ≠ ([65, 84, 84, 69, 78, 68, 69, 69] : List UInt8)) → ns.flatMap (byN (setF addr name value l)) = ns.flatMap (byN l) := by
    intro ns h
    induction ns with
    | nil => rfl
    | cons n r ih =>
      rw [List.flatMap_cons, List.flatMap_cons, ih (fun m hm => h m (List.mem_cons_of_mem _ hm)), byN_set]
      congr 1
      refine (List.map_congr_left (g := id) fun x hx => ?_).trans (List.map_id _)
      have hxn := beq_iff_eq.1 (List.mem_filter.1 hx).2
      unfold set1 hitB isAtt
      rw [hxn, beq_eq_false_iff_ne.2 (h n List.mem_cons_self), Bool.false_and, if_neg (by simp)]
      rfl
  exact this toldN told_noatt
theorem param_set (name value : ByteArray) (l : List S77) : paramP (paramF name value l) name = (value, true) := by
  unfold paramF
  split
  · rename_i h
    unfold idxP at h ⊢
    cases hf : l.findIdx? (fun y => y.f0.toList == name.toList) with
    | none => rw [hf] at h; simp at h
    | some i =>
      obtain ⟨hi, hp, hno⟩ := List.findIdx?_eq_some_iff_getElem.1 hf
      simp only [Int.toNat_natCast]
      unfold paramP
      have : (l.set i (⟨name, [value]⟩ : S77)).find? (fun x => x.f0.toList == name.toList) = some ⟨name, [value]⟩ := by
        rw [List.find?_eq_some_iff_getElem]
        refine ⟨texts_same name, i, by rw [List.length_set]; exact hi, by simp, fun j hj => ?_⟩
        have := hno j hj
        simpa [List.getElem_set_ne (Nat.ne_of_gt hj)] using this
      rw [this]
      rfl
  · rename_i h
    unfold paramP
    have hn : l.find? (fun x => x.f0.toList == name.toList) = none := by
      rcases idx_find (fun x : S77 => x.f0.toList == name.toList) l with ⟨_, h2⟩ | ⟨i, _, h2, _⟩
      · exact h2
      · rw [h2] at h; exact absurd (by omega) h
    rw [List.find?_append, hn, Option.none_or, List.find?_cons, show ((⟨name, [value]⟩ : S77).f0.toList == name.toList) = true from texts_same name]
    rfl
theorem flatMap_map' {α β γ : Type} (f : α → β) (g : β → List γ) (l : List α) : (l.map f).flatMap g = l.flatMap fun x => g (f x) := by
  induction l with
  | nil => rfl
  | cons x r ih => rw [List.map_cons, List.flatMap_cons, List.flatMap_cons, ih]
theorem att_set (addr name value : ByteArray) (l : List S25) : attP (chgP (setF addr name value) l) = (attP l).map (set1 addr name value) := by
  rw [attP_oth, attP_oth, oth_chg, flatMap_map', List.map_flatMap]
  have : ∀ m : List S25, (∀ x ∈ m, isTz x.f0 = false) → (m.flatMap fun x => byN (chg1 (setF addr name value) x).f1 attN) = m.flatMap fun x => (byN x.f1 attN).map (set1 addr name value) := by
    intro m h
    induction m with
    | nil => rfl
    | cons x r ih => rw [List.flatMap_cons, List.flatMap_cons, ih (fun y hy => h y (List.mem_cons_of_mem _ hy)), chg1_no (h x List.mem_cons_self), byN_set]
  exact this _ (fun x hx => oth_tzno hx)
theorem att_isAtt {l : List S25} {p : S45} (h : p ∈ attP l) : isAtt p.f0 = true := by
  rw [attP_oth] at h
  obtain ⟨x, _, hp⟩ := List.mem_flatMap.1 h
  have := beq_iff_eq.1 (List.mem_filter.1 hp).2
  unfold isAtt
  rw [this, attN_list]
  rfl
def partN : ByteArray := ⟨#[80, 65, 82, 84, 83, 84, 65, 84]⟩
theorem find_map_same {α : Type} (f : α → α) (p : α → Bool) (hp : ∀ x, p (f x) = p x) : ∀ l : List α, (l.map f).find? p = (l.find? p).map f
  | [] => rfl
  | x :: r => by
    rw [List.map_cons, List.find?_cons, List.find?_cons, hp]
    cases p x with
    | true => rfl
    | false => exact find_map_same f p hp r
theorem status_set (addr status : ByteArray) (l : List S25) (h : (attP l).any (fun p => alikeB p.f2 addr) = true) : statusP (chgP (setF addr partN status) l) addr = mapB uppN status := by
  unfold statusP
  rw [att_set, find_map_same (set1 addr partN status) (fun x => alikeB x.f2 addr) (fun x => by rw [(set1_f0 addr partN status x).2])]
  cases hf : (attP l).find? (fun x => alikeB x.f2 addr) with
  | none =>
    rw [List.find?_eq_none] at hf
    obtain ⟨p, hp, ha⟩ := List.any_eq_true.1 h
    exact absurd ha (by simpa using hf p hp)
  | some p =>
    have hm := List.mem_of_find?_eq_some hf
    have ha := List.find?_some hf
    simp only [Option.map_some]
    have e : set1 addr partN status p = { p with f1 := paramF partN status p.f1 } := by
      unfold set1 hitB
      rw [att_isAtt hm, ha, if_pos (by rfl)]
    rw [e]
    unfold answerP
    have hps := param_set partN status p.f1
    unfold partN at hps ⊢
    simp only [hps, if_true]
theorem status_none (addr : ByteArray) (l : List S25) (h : (attP l).any (fun p => alikeB p.f2 addr) = false) : statusP l addr = (⟨#[]⟩ : ByteArray) := by
  unfold statusP
  have : (attP l).find? (fun x => alikeB x.f2 addr) = none := List.find?_eq_none.2 (fun p hp => by
    intro ha
    rw [List.any_eq_true.2 ⟨p, hp, ha⟩] at h
    cases h)
  rw [this]
theorem sig_same (l m : List S25) (h : rowsP m = rowsP l) : significantP l m = false := by
  unfold significantP
  rw [h, eqL_refl _ _ (fun x => eqL_refl _ _ sameP_refl)]
  rfl
theorem okT_chg {l1 : List S45} {l : List S25} (hl : Few l1 l) (G : List S45 → List S45) (hG : ∀ m, toldP (G m) = toldP m) (hlen : ∀ m, (G m).length ≤ m.length + 1) : okT (chgP G l) = true := by
  unfold PD.okT
  simp only [Bool.and_eq_true, decide_eq_true_eq, List.all_eq_true]
  refine ⟨fun y hy => ?_, by rw [chgP_len]; exact hl.limL.1⟩
  unfold chgP at hy
  obtain ⟨x, hx, rfl⟩ := List.mem_map.1 hy
  have h1 := (hl.c.2.1 x hx).1
  have h2 := toldP_len x.f1
  have h3 := hlen x.f1
  split
  · exact ⟨by omega, by omega⟩
  · exact ⟨by show (G x.f1).length < _; omega, by show (toldP (G x.f1)).length < _; rw [hG]; omega⟩
theorem okB_set {l1 : List S45} {l : List S25} (hl : Few l1 l) (addr status : ByteArray) (hs : shortB status = true) : okB (chgP (setF addr partN status) l) = true := by
  have hb := hl.okB
  unfold PD.okB at hb ⊢
  rw [att_set]
  rw [List.all_eq_true] at hb ⊢
  intro q hq
  obtain ⟨p, hp, rfl⟩ := List.mem_map.1 hq
  have h1 := hb p hp
  rw [(set1_f0 addr partN status p).2]
  unfold set1
  split
  · have hps := param_set partN status p.f1
    unfold partN at hps ⊢
    simp only [hps]
    rw [hs, Bool.and_true]
    exact (Bool.and_eq_true_iff.1 h1).1
  · exact h1
theorem limB_set {l1 : List S45} {l : List S25} (hl : Few l1 l) (addr name value : ByteArray) : limB (chgP (setF addr name value) l) = true := by
  rw [limB_iff]
  intro y hy
  unfold chgP at hy
  obtain ⟨x, hx, rfl⟩ := List.mem_map.1 hy
  have h1 := (hl.c.2.1 x hx).1
  split
  · omega
  · show (setF addr name value x.f1).length < _
    rw [setF_len]; omega
theorem keeps_j1 (a : ByteArray) (l1 : List S45) (l2 : List S25) (addr status : ByteArray) (ha : addr.size ≤ 140737488351232) (hl : Few l1 l2) :
    Ev (fun k => almanaclaw26_ItipKeeps.j1 k addr false a l1 l2 a l1 (chgP (setF addr partN status) l2)) true := by
  have hs := short_of ha
  have hsig : ∀ m : List S25, okT m = true → rowsP m = rowsP l2 → ∀ l', itip_Significant.f a l1 l2 a l' m = some false := fun m h1 h2 l' => by
    unfold itip_Significant.f
    rw [if_pos (by rw [hl.okT, h1]; rfl), sig_same _ _ h2]
  have hlO := hl.limO
  have hp1 := hl.p.1
  obtain ⟨m1, hm1⟩ : ∃ m1, ∀ k, itip_Message.f k a l1 l2 (⟨#[88]⟩ : ByteArray) = some (a, m1, l2) := by
    have hfl := List.length_filter_le (fun x : S45 => !(x.f0.toList == (⟨#[77, 69, 84, 72, 79, 68]⟩ : ByteArray).toList)) l1
    refine ⟨l1.filter (fun x : S45 => !(x.f0.toList == (⟨#[77, 69, 84, 72, 79, 68]⟩ : ByteArray).toList)) ++ [(⟨⟨#[77, 69, 84, 72, 79, 68]⟩, [], ⟨#[88]⟩⟩ : S45)], fun k => ?_⟩
    unfold itip_Message.f itip_without.f
    rw [if_pos (by omega), Option.bind_some, if_neg (by decide +kernel), if_pos (by omega)]
  have hO : ∀ k, itip_Only.f k a l1 l2 addr = some (a, l1, chgP (onlyF addr) l2) := fun k => by unfold itip_Only.f; rw [if_pos (by rw [hlO, hs]; rfl)]
  have hD : ∀ k, itip_Delivered.f k a l1 l2 addr (⟨#[49]⟩ : ByteArray) = some (a, l1, chgP (setF addr (⟨#[83, 67, 72, 69, 68, 85, 76, 69, 45, 83, 84, 65, 84, 85, 83]⟩ : ByteArray) (⟨#[49]⟩ : ByteArray)) l2) := fun k => by unfold itip_Delivered.f; rw [if_pos (by rw [hlO, hs]; rfl)]
  refine ⟨1, fun k hk => ?_⟩
  obtain ⟨k, rfl⟩ : ∃ m, k = m + 1 := ⟨k - 1, by omega⟩
  simp only [almanaclaw26_ItipKeeps.j1]
  rw [if_neg (by simp), hsig l2 hl.okT rfl l1, Option.bind_some, if_neg (by simp), hsig _ (okT_chg hl _ (fun m => told_set _ _ _ m) (fun m => by rw [setF_len]; omega)) (rowsP_chg _ (fun m => told_set _ _ _ m) _) l1, Option.bind_some, if_neg (by simp), hO, Option.bind_some]
  simp only
  rw [hsig _ (okT_chg hl _ (fun m => told_only addr m) (fun m => Nat.le_trans (onlyF_len addr m) (Nat.le_succ _))) (rowsP_chg _ (fun m => told_only addr m) _) l1, Option.bind_some, if_neg (by simp), hm1, Option.bind_some]
  simp only
  rw [hsig l2 hl.okT rfl m1, Option.bind_some, if_neg (by simp), hD, Option.bind_some]
  simp only
  rw [hsig _ (okT_chg hl _ (fun m => told_set _ _ _ m) (fun m => by rw [setF_len]; omega)) (rowsP_chg _ (fun m => told_set _ _ _ m) _) l1, Option.bind_some, if_neg (by simp)]
  rfl
theorem keeps_l0 (a : ByteArray) (l1 : List S45) (l2 : List S25) (addr status : ByteArray) (ha : addr.size ≤ 140737488351232) (hst : status.size ≤ 140737488351232) (hl : Few l1 l2) (l : List ByteArray) (hsh : ∀ y ∈ l, shortB y = true) (hlen : l.length ≤ 9223372036854775807) (hany : l.any (fun y => alikeB y addr) = (attP l2).any fun p => alikeB p.f2 addr) :
    ∀ (d i : Nat) (b : Bool), l.length - i = d → i ≤ l.length → b = (l.take i).any (fun y => alikeB y addr) → Ev (fun k => almanaclaw26_ItipKeeps.l0 k addr status b l (l.length : Int) i a l1 l2 a l1 (chgP (setF addr partN status) l2)) true := by
  have hs := short_of ha
  have hss := short_of hst
  intro d
  induction d with
  | zero =>
    intro i b hd hi hb
    rw [List.take_of_length_le (by omega), hany] at hb
    have hj := keeps_j1 a l1 l2 addr status ha hl
    have hSd : ∀ k, itip_Status.f k a l1 (chgP (setF addr partN status) l2) addr = some (statusP (chgP (setF addr partN status) l2) addr) := fun k => by unfold itip_Status.f; rw [if_pos (by rw [limB_set hl, okB_set hl addr status hss, hs]; rfl)]
    have hSc : ∀ k, itip_Status.f k a l1 l2 addr = some (statusP l2 addr) := fun k => by unfold itip_Status.f; rw [if_pos (by rw [hl.limB, hl.okB, hs]; rfl)]
    refine Ev.step (f := fun k => almanaclaw26_ItipKeeps.j1 k addr false a l1 l2 a l1 (chgP (setF addr partN status) l2)) (fun k => ?_) hj
    simp only [almanaclaw26_ItipKeeps.l0]
    rw [if_neg (by omega)]
    cases b with
    | true =>
      rw [if_pos rfl, hSd, Option.bind_some, status_set addr status l2 hb.symm]
      unfold almanacref08_Upper.f
      rw [if_pos hss, Option.bind_some, if_pos rfl]
    | false =>
      rw [if_neg (by simp), hSc, Option.bind_some, status_none addr l2 hb.symm, show ((⟨#[]⟩ : ByteArray).toList != ([] : List UInt8)) = false by decide +kernel]
  | succ d ih =>
    intro i b hd hi hb
    have hlt : i < l.length := by omega
    have hy := hsh l[i] (List.getElem_mem hlt)
    have hnx := ih (i + 1) (b || alikeB l[i] addr) (by omega) (by omega) (by rw [List.take_succ_eq_append_getElem hlt, List.any_append, ← hb, List.any_cons, List.any_nil, Bool.or_false])
    refine Ev.step (f := fun k => (itip_User.f k l[i]).bind fun bt350 => ((itip_User.f k addr).bind fun bt352 => (if b = true then (almanaclaw26_ItipKeeps.l0 k addr status true l (l.length : Int) ((i + 1 : Nat) : Int) a l1 l2 a l1 (chgP (setF addr partN status) l2)) else (if l[i].toList = addr.toList then (almanaclaw26_ItipKeeps.l0 k addr status true l (l.length : Int) ((i + 1 : Nat) : Int) a l1 l2 a l1 (chgP (setF addr partN status) l2)) else (if bt350.2 = true then (if bt352.2 = true then (almanaclaw26_ItipKeeps.l0 k addr status (bt350.1.toList == bt352.1.toList) l (l.length : Int) ((i + 1 : Nat) : Int) a l1 l2 a l1 (chgP (setF addr partN status) l2)) else (almanaclaw26_ItipKeeps.l0 k addr status false l (l.length : Int) ((i + 1 : Nat) : Int) a l1 l2 a l1 (chgP (setF addr partN status) l2))) else (almanaclaw26_ItipKeeps.l0 k addr status false l (l.length : Int) ((i + 1 : Nat) : Int) a l1 l2 a l1 (chgP (setF addr partN status) l2))))))) (fun k => ?_) ?_
    · simp only [almanaclaw26_ItipKeeps.l0]
      rw [if_pos (by omega), if_pos (by omega), if_pos (by omega), wrap_next hlt (by omega), rdB_at l i hlt]
    · have hu : ∀ z, shortB z = true → Ev (fun k => itip_User.f k z) (userP z) := fun z hz => ⟨1, fun k hk => by obtain ⟨k, rfl⟩ : ∃ m, k = m + 1 := ⟨k - 1, by omega⟩; exact user_val k z hz⟩
      refine Ev.bind (hu _ hy) (Ev.bind (hu _ hs) ?_)
      rw [alike_user _ _ hy hs] at hnx
      cases b with
      | true =>
        rw [Bool.true_or] at hnx
        exact Ev.congr (fun k => if_pos rfl) hnx
      | false =>
        rw [Bool.false_or] at hnx
        refine Ev.congr (fun k => if_neg (by simp)) ?_
        by_cases h0 : l[i].toList = addr.toList
        · rw [beq_iff_eq.2 h0, Bool.true_or] at hnx
          exact Ev.congr (fun k => if_pos h0) hnx
        · rw [beq_eq_false_iff_ne.2 h0, Bool.false_or] at hnx
          refine Ev.congr (fun k => if_neg h0) ?_
          cases hx : (userP l[i]).2 with
          | false =>
            rw [hx, Bool.false_and] at hnx
            exact Ev.congr (fun k => if_neg (by simp)) hnx
          | true =>
            rw [hx, Bool.true_and] at hnx
            refine Ev.congr (fun k => if_pos rfl) ?_
            cases hz : (userP addr).2 with
            | false =>
              rw [hz, Bool.false_and] at hnx
              exact Ev.congr (fun k => if_neg (by simp)) hnx
            | true =>
              rw [hz, Bool.true_and] at hnx
              exact Ev.congr (fun k => if_pos rfl) hnx
theorem itipKeeps_pure (a : ByteArray) (l1 : List S45) (l2 : List S25) (addr status : ByteArray) (ha : addr.size ≤ 140737488351232) (hst : status.size ≤ 140737488351232) (hl1 : l1.length ≤ 140737488355328) (hp1 : ∀ p ∈ l1, SzP p) (hl2 : l2.length ≤ 140737488355328) (hp2 : ∀ y ∈ l2, Sz y) :
    ∃ k, almanaclaw26_ItipKeeps.f k a l1 l2 addr status = some true := by
  refine Ev.rounds (g := fun k => almanaclaw26_ItipKeeps.f k a l1 l2 addr status) ?_
  unfold almanaclaw26_ItipKeeps.f
  obtain ⟨b1, e1, h1⟩ := rlight a l1 l2 hl1 hp1 hl2 hp2
  refine Ev.bind e1 ?_
  cases b1 with
  | false => exact ⟨0, fun k _ => rfl⟩
  | true =>
    refine Ev.congr (fun k => if_pos rfl) ?_
    obtain ⟨p1, c1⟩ := h1 rfl
    have hl : Few l1 l2 := ⟨p1, c1, hp1, hp2⟩
    have hs := short_of ha
    refine Ev.bind (g := fun k => itip_SetStatus.f k a l1 l2 addr status) (a := (a, l1, chgP (setF addr partN status) l2)) ⟨0, fun k _ => by show itip_SetStatus.f k a l1 l2 addr status = _; unfold itip_SetStatus.f; rw [if_pos (by rw [hl.limO, hs]; rfl)]; rfl⟩ ?_
    refine Ev.bind (g := fun k => itip_Attendees.f k a l1 l2) (a := attendeesP l2) ⟨0, fun k _ => by show itip_Attendees.f k a l1 l2 = _; unfold itip_Attendees.f; rw [hl.limB, hl.okF, decide_eq_true hl.att.1]; rfl⟩ ?_
    have hsh : ∀ (ps : List S45) (out : List ByteArray), (∀ p ∈ ps, shortB p.f2 = true) → (∀ y ∈ out, shortB y = true) → ∀ y ∈ ps.foldl addA out, shortB y = true := by
      intro ps
      induction ps with
      | nil => intro out _ ho; exact ho
      | cons p r ih => intro out hp ho; exact ih _ (fun q hq => hp q (List.mem_cons_of_mem _ hq)) (addA_short ho (hp p List.mem_cons_self))
    have hal : ∀ (ps : List S45) (out : List ByteArray), (ps.foldl addA out).length ≤ out.length + ps.length := by
      intro ps
      induction ps with
      | nil => intro out; exact Nat.le_refl _
      | cons p r ih =>
        intro out
        have h1 := ih (addA out p)
        have h2 := addA_len out p
        show (r.foldl addA (addA out p)).length ≤ out.length + (r.length + 1)
        omega
    have h2 : (attendeesP l2).length ≤ 0 + (attP l2).length := hal (attP l2) []
    have h3 := hl.att.1
    refine keeps_l0 a l1 l2 addr status ha hst hl (attendeesP l2) (hsh _ [] hl.att.2 (fun y hy => by cases hy)) (by omega) ?_ _ 0 false rfl (Nat.zero_le _) (by simp)
    unfold attendeesP
    rw [addA_any addr hs (attP l2) [] hl.att.2 (fun y hy => by cases hy), List.any_nil, Bool.false_or]
end Go.Proofs.Ytebmbfobmakheaa.PD
namespace Go.Proofs.Ytebmbfobmakheaa.PD
open Go.ChangeShapes Go.WideShapes Go.ChangeAt Go.RowKit Go.Proofs.YtebmbfobmakheaaW.PrintWords
set_option linter.unusedVariables false
namespace ItipKeepsRow
open _root_.Go.Proofs.Ytebmbfobmakheaa.Rows
set_option maxRecDepth 100000 in
theorem lifted (os : _root_.Go.Os) (started : os.Started) (H : Type) (enc : TypeId × Value → H) :
    ReturnsInHanded {} Try.checked os 4 .any (itipKeepsSpec.pre6 enc Try.prog Try.f4 itipKeepsRow.domain false) (itipKeepsSpec.post enc Try.prog Try.f4 false true false false) := by
  refine returnsInHanded_of_change_sized (C := Try.checked) own started (by kernel_rfl) Try.func4
    (ChangeSpec.witness6 (enc := enc) (C := Try.checked) false ⟨#[], #[.agg #[.string ⟨#[]⟩, .slice none 0 0, .slice none 0 0], .string ⟨#[]⟩, .string ⟨#[]⟩], []⟩ 8 (by kernel_rfl) (by kernel_rfl) (by kernel_rfl) (by kernel_rfl)) ?_
  intro W base args ds gs before hval0 hW hcnd hsz0 _
  have hsz : (DataW.weightsEach Try.prog (Try.f4.params.toList ++ itipKeepsSpec.plain.varTypes Try.prog) (ds ++ gs)).all (· ≤ reachBytes) = true := hsz0
  have hval : ∀ (j : Nat) t v, Try.f4.params[j]? = some t → args[j]? = some v → Value.okWide Try.prog W .any base t v := hval0
  have hW' := hW
  obtain ⟨p, q, hA0, hV, rfl, hfz, hnd⟩ := hW
  have hA : DataW.TrodAll enc Try.prog W 0 (fun _ => true) true Try.f4.params.toList args.toList ds p := hA0
  rw [Try.params4] at hA hval hsz
  obtain ⟨v0, vs0, d0, ds0, p0, q0, hargs, rfl, rfl, h0, r0⟩ := trodAll_cons hA
  obtain ⟨v1, vs1, d1, ds1, p1, q1, rfl, rfl, rfl, h1, r1⟩ := trodAll_cons r0
  obtain ⟨v2, vs2, d2, ds2, p2, q2, rfl, rfl, rfl, h2, r2⟩ := trodAll_cons r1
  obtain ⟨rfl, rfl, rfl⟩ := trodAll_nil r2
  obtain rfl : args = #[v0, v1, v2] := by cases args; simp_all
  obtain ⟨rfl, rfl⟩ := trodVars_none hV
  obtain ⟨s0, A1, c1, l1, A2, c2, l2, rfl, x1, y1, x2, y2, z1, z2, z3, z4⟩ := open_comp (hval 0 25 v0 rfl rfl) h0 (weighs hsz (j := 0) rfl rfl)
  obtain ⟨addr, rfl, rfl, rfl, wa⟩ := Go.ChangeMaps.open_string Try.underlying9 (hval 1 9 v1 rfl rfl) h1
  obtain ⟨st, rfl, rfl, rfl, wb⟩ := Go.ChangeMaps.open_string Try.underlying9 (hval 2 9 v2 rfl rfl) h2
  have haddr : addr.size ≤ 140737488351232 := by
    have := weighs hsz (j := 1) rfl rfl addr.data.toList.length (by simp [DataW.weights])
    unfold reachBytes at this
    rwa [data_length] at this
  have hst : st.size ≤ 140737488351232 := by
    have := weighs hsz (j := 2) rfl rfl st.data.toList.length (by simp [DataW.weights])
    unfold reachBytes at this
    rwa [data_length] at this
  have g0 := h0
  have lt0 : ∀ x ∈ p0, x.block < W.heap.size := by obtain ⟨m, hm⟩ := g0; exact DataW.trod_lt m _ _ _ hm
  clear hA0 hval0 hsz0 hsz
  obtain ⟨k, hk⟩ := itipKeeps_pure s0 l1 l2 addr st haddr hst z1 z2 z3 z4
  refine (almanaclaw26_ItipKeeps.callsT k s0 A1 c1 l1 A2 c2 l2 addr st true W x1 y1 x2 y2 hk rfl).mono fun e W' ⟨he, bel⟩ => ?_
  subst he
  exact ⟨_, rfl, _, _, _, [], _, [], hW', trodAll_mk1 (shut_bool Try.underlying4 _), (trodAll_cons_mk (Below.trod laidOut (by kernel_rfl) (of_decide_eq_true (by kernel_rfl)) g0 bel lt0) (trodAll_cons_mk (Go.ChangeMaps.shut_string Try.underlying9 wa) (trodAll_cons_mk (Go.ChangeMaps.shut_string Try.underlying9 wb) trodAll_mk0))), rfl, bel.frame _, fun h => by cases h⟩
theorem over : itipKeepsRow.holds Try.pinned (OpenSpec.ofChange itipKeepsSpec) :=
  OpenClaim.holds_of_wide 4 Try.f4 rfl rfl rfl rfl rfl rfl rfl ⟨rfl, rfl, rfl, rfl, rfl⟩ rfl rfl rfl rfl rfl (by kernel_rfl) Try.func4 (by kernel_rfl)
    (of_decide_eq_true (by kernel_rfl)) (by unfold Func.isWrapper; first | (rw [if_pos (by decide +kernel)]; kernel_rfl) | (rw [if_neg (by decide +kernel)]; exact ⟨rfl, rfl⟩))
    (fun os started H enc _ => lifted os started H enc)
end ItipKeepsRow
theorem itipKeeps_holds : Rows.ItipKeepsSaid := ItipKeepsRow.over
end Go.Proofs.Ytebmbfobmakheaa.PD
