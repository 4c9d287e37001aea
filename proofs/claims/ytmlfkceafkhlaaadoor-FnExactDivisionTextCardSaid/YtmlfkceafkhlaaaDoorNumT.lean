/- Walks: numerals as text: l1Num, l1Int, strconv.Itoa. -/
import Derived.Test.YtmlfkceafkhlaaaDoorChain
import Derived.Test.YtmlfkceafkhlaaaDoorNum
import Derived.Test.YtmlfkceafkhlaaaDoorShelf
import Derived.Lib.AppendIntMem
import Derived.Lib.ItoaLen
import Derived.Laws.Concat
import Derived.Laws.IdiomStrings
namespace Go.Proofs.YtmlfkceafkhlaaaDoor
open Go.RowKit

theorem below_grow2 (w : World) (q : Nat) (os : Array Obj) : Below w.heap.size w (Sort.grow (w.drewN q) os) :=
  ⟨rfl, rfl, rfl, by simp [Sort.grow, World.drewN], fun k hk => by
    show (w.heap ++ os)[k]? = _
    rw [Array.getElem?_append_left hk]⟩
abbrev TabI (w : World) : Prop := Lib.TabIs Tryd.prog w "internal/strconv.uint64pow10" .u64 Lib.pow10Tab
theorem TabI.below {w w' : World} (h : TabI w) (hb : Below w.heap.size w w') : TabI w' := Lib.tabBelow_of_tabIs h w' hb
theorem c_itoa (n : Int) (h0 : -9223372036854775808 ≤ n) (h1 : n ≤ 9223372036854775807) (w : World) (ht : TabI w) :
    Calls Tryd.prog 21 #[.int .i64 n] w fun e w' => e = .returned (.string ⟨(Lib.itoa n).toArray⟩) ∧ Below w.heap.size w w' :=
  (Tryd.strconv_Itoa n h0 h1 w ht).mono fun _ _ ⟨he, k, os, hw⟩ => ⟨he, by rw [hw]; exact below_grow2 w k os⟩
section
variable {P : Program} {ops : Array Oper} {Q : Exit → Act → World → Prop} {ex : List Nat} {W : World} {N D : World → Prop}
theorem wpAnyF_N : ∀ {f : Nat} {l : Array Bool} {a : Act} {N' D : World → Prop}, wpAnyF P ops Q ex W (fun _ => false) f l a N' D → wpAnyF P ops Q ex W (fun _ => false) f l a (fun _ => True) D
  | 0, _, _, _, _, k => k
  | _ + 1, _, _, _, _, k => ⟨k.1, fun i hi w ho hd => wpOp_mono (fun _ _ ⟨_, D', h1, _, _, h4, h5, h6⟩ => ⟨fun _ => True, D', h1, fun _ _ => trivial, fun _ => rfl, h4, h5, wpAnyF_N h6⟩) (k.2 i hi w ho hd)⟩
theorem stepN_call {a : Act} {listed : Array Bool} {f i fn : Nat} {o : Oper} {args : Array Value} {v : Value} (dd : Option Tmp) (D' : World → Prop) (ho : ops[i]? = some o) (hw : Region.wanted o (yielded ops a.tmps) = true)
    (hdd : o.dst = dd) (hrun : ∀ w, (execOp a.eval o).run P w = .ok (.enter fn args) w) (hD' : Closed D') (hN : ∀ w, D' w → N w)
    (hc : ∀ w, Over ex W w → D w → Calls P fn args w fun e w' => e = .returned v ∧ Over ex w w' ∧ D' w')
    (h : (∃ w, Over ex W w ∧ D' w) → wpAnyF P ops Q ex W (fun _ => false) f (listed.setIfInBounds i true) (a.put dd v) N D') :
    StepF P ops Q ex W (fun _ => false) f listed a N D i :=
  stepF_call N D' ho hw hrun hD' hN (fun _ => rfl) hc (by rw [hdd]; exact h)
theorem stepN_new {a : Act} {listed : Array Bool} {f i d : Nat} {o : Oper} (F : Nat → Value) (zs : Array Value) (T : TypeId) (ho : ops[i]? = some o) (hw : Region.wanted o (yielded ops a.tmps) = true) (hd : o.dst = some d)
    (hrun : ∀ w, (execOp a.eval o).run P w = .ok (.value (F w.heap.size)) (w.alloc (.cells zs T))) (hD : Closed D)
    (h : ∀ r, W.heap.size ≤ r → (∃ w, Over ex W w ∧ (D w ∧ Blk r zs T w)) → wpAnyF P ops Q ex W (fun _ => false) f (listed.setIfInBounds i true) (a.put (some d) (F r)) (fun _ => True) (fun w => D w ∧ Blk r zs T w)) :
    StepF P ops Q ex W (fun _ => false) f listed a (fun _ => True) D i := fun w hO hd' => by
  unfold wpOp
  simp only [ho, hw, if_true]
  refine .inl ?_
  unfold Oper.wp
  rw [hrun w]
  simp only [Oper.upon, hd]
  have h1 : D (w.alloc (.cells zs T)) ∧ Blk w.heap.size zs T (w.alloc (.cells zs T)) := ⟨hD _ _ hd' ((Below.refl _ _).alloc (Nat.le_refl _) (.cells zs T)), Blk.new w zs T⟩
  exact ⟨fun _ => True, fun w' => D w' ∧ Blk w.heap.size zs T w', hD.and (Blk.closed _ _ _), fun _ _ => trivial, fun _ => rfl, hO.alloc _, h1, h w.heap.size hO.size ⟨_, hO.alloc _, h1⟩⟩
end
theorem conv1 (u : Nat) (h : u < 10) : ∀ (w1 : World) (r : Nat), w1.cell? ⟨r, 0, none⟩ = some (.int .u8 (48 + (u : Int))) → (convert 43 9 (.slice (some ⟨r, 0, none⟩) 1 1)).run Tryd.prog w1 = .ok (.string ⟨(Lib.decDigits u).toArray⟩) w1 := by
  intro w1 r hc
  have := run_convert_bytes_back (P := Tryd.prog) w1 43 9 5 ⟨r, 0, none⟩ 1 [UInt8.ofNat (48 + u)] (by kernel_rfl) (by kernel_rfl) (by kernel_rfl) (fun j hj => by
    have : j = 0 := by simpa using hj
    subst this
    have e : ((UInt8.ofNat (48 + u)).toNat : Int) = 48 + (u : Int) := by simp; omega
    show w1.cell? ⟨r, 0, none⟩ = _
    rw [hc, List.getElem_cons_zero, e])
  rw [Lib.decDigits_one h]
  exact this
theorem dec_size (u : Nat) (h : u < 1000000000000000000) : (⟨(Lib.decDigits u).toArray⟩ : ByteArray).size ≤ 20 := by
  show (Lib.decDigits u).toArray.size ≤ 20
  rw [List.size_toArray, Lib.decDigits_length]
  exact Lib.nDigits_le20 u (by omega)
theorem dec_app (u : Nat) (h : ¬ u < 10) : (⟨(Lib.decDigits (u / 10)).toArray⟩ : ByteArray) ++ ⟨(Lib.decDigits (u % 10)).toArray⟩ = ⟨(Lib.decDigits u).toArray⟩ := by
  rw [Lib.decDigits_one (show u % 10 < 10 by omega)]
  conv => rhs; rw [Lib.decDigits, dif_neg h]
  apply ByteArray.ext
  simp
set_option maxHeartbeats 1000000 in
set_option maxRecDepth 100000 in
theorem c_l1Num : ∀ (m u : Nat), u ≤ m → u < 1000000000000000000 → ∀ w : World,
    Calls Tryd.prog 15 #[.int .i64 (u : Int)] w fun e w' => e = .returned (.string ⟨(Lib.decDigits u).toArray⟩) ∧ Below w.heap.size w w' := by
  intro m
  induction m with
  | zero =>
    intro u hu hu2 w
    have h10 : (u : Int) < 10 := by omega
    have hcv := conv1 u (by omega)
    go_enter Tryd.func15, Tryd.ntmps15
    go_wp2
    go_ret
    refine ⟨rfl, ?_⟩
    (repeat' (first | (with_reducible exact Below.refl _ _) | (with_reducible refine below_step (by assumption) ?_ ?_) | (with_reducible refine Below.alloc ?_ ?_ _) | (with_reducible refine Below.setCell ?_ ?_ _) | (with_reducible refine below_drewN ?_ _) | (with_reducible refine Below.drew ?_) | omega | (simp; omega) | (simp; done)))
  | succ m ih =>
    intro u hu hu2 w
    by_cases h10 : u < 10
    · have h10' : (u : Int) < 10 := by omega
      have hcv := conv1 u h10
      go_enter Tryd.func15, Tryd.ntmps15
      go_wp2
      go_ret
      refine ⟨rfl, ?_⟩
      (repeat' (first | (with_reducible exact Below.refl _ _) | (with_reducible refine below_step (by assumption) ?_ ?_) | (with_reducible refine Below.alloc ?_ ?_ _) | (with_reducible refine Below.setCell ?_ ?_ _) | (with_reducible refine below_drewN ?_ _) | (with_reducible refine Below.drew ?_) | omega | (simp; omega) | (simp; done)))
    · have h10' : ¬ ((u : Int) < 10) := by omega
      have hcv := conv1 (u % 10) (by omega)
      have ih' := ih (u / 10) (by omega) (by omega)
      have hs := dec_app u h10
      have z1 := dec_size (u / 10) (by omega)
      have z2 := dec_size (u % 10) (by omega)
      rw [Int.natCast_emod] at hcv
      rw [Int.natCast_ediv] at ih'
      generalize (⟨(Lib.decDigits (u / 10)).toArray⟩ : ByteArray) = A at *
      generalize (⟨(Lib.decDigits (u % 10)).toArray⟩ : ByteArray) = B at *
      have HA := fun w => run_string_add_sum (P := Tryd.prog) w A B (by omega)
      have HS := Lib.hid hs
      have IH := Lib.hid ih'
      clear ih ih' hs
      go_enter Tryd.func15, Tryd.ntmps15
      go_wp2
      refine wp_region_cls [] (fun _ => false) (fun _ => True) (fun _ => True) (by kernel_rfl) trivial ?_
      apply wpAnyF_hd ⟨w, Over.refl _ _, trivial⟩ [true, true, false, true, true, true, true] 5 (Closed.true) (fun _ _ => trivial) (by kernel_rfl) (by kernel_rfl) (by kernel_rfl) (by kernel_rfl) (by simp)
      · intro E hE hEN hEn; (repeat (first | (refine wpHL_take ?_; go_big_quiet_step (fail); refine wpQuiet_nil ?_) | refine wpHL_skip ?_)); exact wpHL_end rfl
      refine wpAnyF_ready [2, 7] 4 (by kernel_rfl) (by kernel_rfl) (by simp) ?_
      refine AllF.cons ?_ (AllF.cons ?_ AllF.nil)
      · refine stepC_call (v := .string A) (some 12) (fun _ => True) (by rfl) (by rfl) (by rfl) (fun _ => by go_simp) Closed.true (fun w1 _ _ => (IH.out w1).mono fun _ _ ⟨he, hb⟩ => ⟨he, Over.of_below hb, trivial⟩) (fun hne => ?_)
        simp only [Act.put, List.setIfInBounds_toArray, List.set_cons_succ, List.set_cons_zero]
        refine wpAnyF_ready [7] 3 (by kernel_rfl) (by kernel_rfl) (by simp) (AllF.cons ?_ AllF.nil)
        refine stepN_new (d := 17) (fun r => .slice (some ⟨r, 0, none⟩) 1 1) #[.int .u8 (48 + (u : Int) % 10)] 5 (by rfl) (by rfl) (by rfl) (fun _ => by go_simp) Closed.true (fun r hr hne => ?_)
        simp only [Act.put, List.setIfInBounds_toArray, List.set_cons_succ, List.set_cons_zero]
        refine wpAnyF_N (N' := Blk r #[.int .u8 (48 + (u : Int) % 10)] 5) ?_
        apply wpAnyF_hd hne [false, false, false, false, false, false, false, false, true, true, true] 0 (Closed.and Closed.true (Blk.closed _ _ _)) (fun _ h => h.2) (by kernel_rfl) (by kernel_rfl) (by kernel_rfl) (by kernel_rfl) (by simp)
        · intro E hE hEN hEn; have hk : ∀ c : Cls [] w E, c.wd.cell? ⟨r, 0, none⟩ = some (.int .u8 (48 + (u : Int) % 10)) := fun c => (hEN _ c.more).cell 0; (repeat (first | (refine wpHL_take ?_; go_big_quiet_step (fail); refine wpQuiet_nil ?_) | refine wpHL_skip ?_)); exact wpHL_end rfl
        refine wpAnyF_done (by kernel_rfl) (fun Wz hOz hDz => NoPanic.normal ?_) _
        try dsimp only
        go_wp2
        go_ret
        exact ⟨congrArg (fun s => Ending.returned (.string s)) HS.out, hOz.below⟩
      · refine stepN_new (d := 17) (fun r => .slice (some ⟨r, 0, none⟩) 1 1) #[.int .u8 (48 + (u : Int) % 10)] 5 (by rfl) (by rfl) (by rfl) (fun _ => by go_simp) Closed.true (fun r hr hne => ?_)
        simp only [Act.put, List.setIfInBounds_toArray, List.set_cons_succ, List.set_cons_zero]
        refine wpAnyF_N (N' := Blk r #[.int .u8 (48 + (u : Int) % 10)] 5) ?_
        apply wpAnyF_hd hne [false, false, false, false, false, false, false, false, true] 3 (Closed.and Closed.true (Blk.closed _ _ _)) (fun _ h => h.2) (by kernel_rfl) (by kernel_rfl) (by kernel_rfl) (by kernel_rfl) (by simp)
        · intro E hE hEN hEn; have hk : ∀ c : Cls [] w E, c.wd.cell? ⟨r, 0, none⟩ = some (.int .u8 (48 + (u : Int) % 10)) := fun c => (hEN _ c.more).cell 0; (repeat (first | (refine wpHL_take ?_; go_big_quiet_step (fail); refine wpQuiet_nil ?_) | refine wpHL_skip ?_)); exact wpHL_end rfl
        refine wpAnyF_ready [2] 2 (by kernel_rfl) (by kernel_rfl) (by simp) (AllF.cons ?_ AllF.nil)
        refine stepN_call (v := .string A) (some 12) (fun w' => True ∧ Blk r #[.int .u8 (48 + (u : Int) % 10)] 5 w') (by rfl) (by rfl) (by rfl) (fun _ => by go_simp) (Closed.and Closed.true (Blk.closed _ _ _)) (fun _ h => h.2) (fun w1 _ hd => (IH.out w1).mono fun _ _ ⟨he, hb⟩ => ⟨he, Over.of_below hb, trivial, Blk.closed _ _ _ _ _ hd.2 hb⟩) (fun hne => ?_)
        simp only [Act.put, List.setIfInBounds_toArray, List.set_cons_succ, List.set_cons_zero]
        apply wpAnyF_hd hne [false, false, false, false, false, false, false, false, false, true, true] 0 (Closed.and Closed.true (Blk.closed _ _ _)) (fun _ h => h.2) (by kernel_rfl) (by kernel_rfl) (by kernel_rfl) (by kernel_rfl) (by simp)
        · intro E hE hEN hEn; (repeat (first | (refine wpHL_take ?_; go_big_quiet_step (fail); refine wpQuiet_nil ?_) | refine wpHL_skip ?_)); exact wpHL_end rfl
        refine wpAnyF_done (by kernel_rfl) (fun Wz hOz hDz => NoPanic.normal ?_) _
        try dsimp only
        go_wp2
        go_ret
        exact ⟨congrArg (fun s => Ending.returned (.string s)) HS.out, hOz.below⟩
end Go.Proofs.YtmlfkceafkhlaaaDoor
