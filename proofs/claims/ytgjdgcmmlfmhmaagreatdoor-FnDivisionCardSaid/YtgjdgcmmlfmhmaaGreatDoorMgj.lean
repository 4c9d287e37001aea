/- Several texts joined: NumT Wtx Tbl DwT DwC DwB. -/
import Derived.Test.YtgjdgcmmlfmhmaaGreatDoorChain
import Derived.Test.YtgjdgcmmlfmhmaaGreatDoorStepN
import Derived.Test.YtgjdgcmmlfmhmaaGreatDoorNum
import Derived.Test.YtgjdgcmmlfmhmaaGreatDoorShelf
import Derived.Lib.AppendIntMem
import Derived.Lib.ItoaLen
import Derived.Laws.Concat
import Derived.Laws.IdiomStrings
import Derived.Test.YtgjdgcmmlfmhmaaGreatDoorMga
import Derived.Deep.Cut
import Derived.Shelf.Abstract
import Derived.Test.YtgjdgcmmlfmhmaaGreatDoorCls
import Derived.Test.YtgjdgcmmlfmhmaaGreatDoorCurve
import Derived.Test.YtgjdgcmmlfmhmaaGreatDoorMgi
/- NumT -/
namespace Go.Proofs.YtgjdgcmmlfmhmaaGreatDoor
open Go.RowKit

theorem below_grow2 (w : World) (q : Nat) (os : Array Obj) : Below w.heap.size w (Sort.grow (w.drewN q) os) :=
  ⟨rfl, rfl, rfl, by simp [Sort.grow, World.drewN], fun k hk => by
    show (w.heap ++ os)[k]? = _
    rw [Array.getElem?_append_left hk]⟩
abbrev TabI (w : World) : Prop := Lib.TabIs Tryz.prog w "internal/strconv.uint64pow10" .u64 Lib.pow10Tab
theorem TabI.below {w w' : World} (h : TabI w) (hb : Below w.heap.size w w') : TabI w' := Lib.tabBelow_of_tabIs h w' hb
theorem c_itoa (n : Int) (h0 : -9223372036854775808 ≤ n) (h1 : n ≤ 9223372036854775807) (w : World) (ht : TabI w) :
    Calls Tryz.prog 84 #[.int .i64 n] w fun e w' => e = .returned (.string ⟨(Lib.itoa n).toArray⟩) ∧ Below w.heap.size w w' :=
  (Tryz.strconv_Itoa n h0 h1 w ht).mono fun _ _ ⟨he, k, os, hw⟩ => ⟨he, by rw [hw]; exact below_grow2 w k os⟩
theorem conv1 (u : Nat) (h : u < 10) : ∀ (w1 : World) (r : Nat), w1.cell? ⟨r, 0, none⟩ = some (.int .u8 (48 + (u : Int))) → (convert 22 9 (.slice (some ⟨r, 0, none⟩) 1 1)).run Tryz.prog w1 = .ok (.string ⟨(Lib.decDigits u).toArray⟩) w1 := by
  intro w1 r hc
  have := run_convert_bytes_back (P := Tryz.prog) w1 22 9 5 ⟨r, 0, none⟩ 1 [UInt8.ofNat (48 + u)] (by kernel_rfl) (by kernel_rfl) (by kernel_rfl) (fun j hj => by
    have : j = 0 := by simpa using hj
    subst this
    have e : ((UInt8.ofNat (48 + u)).toNat : Int) = 48 + (u : Int) := by simp; omega
    show w1.cell? ⟨r, 0, none⟩ = _
    rw [hc, List.getElem_cons_zero, e])
  rw [Lib.decDigits_one h]
  exact this
theorem dec_size (u : Nat) (h : u < 1000000000000000000) : (⟨(Lib.decDigits u).toArray⟩ : ByteArray).size ≤ 20 := by
  show (Lib.decDigits u).toArray.size ≤ 20
  rw [List.size_toArray, Lib.decDigits_length]
  exact Lib.nDigits_le20 u (by omega)
theorem dec_app (u : Nat) (h : ¬ u < 10) : (⟨(Lib.decDigits (u / 10)).toArray⟩ : ByteArray) ++ ⟨(Lib.decDigits (u % 10)).toArray⟩ = ⟨(Lib.decDigits u).toArray⟩ := by
  rw [Lib.decDigits_one (show u % 10 < 10 by omega)]
  conv => rhs; rw [Lib.decDigits, dif_neg h]
  apply ByteArray.ext
  simp
set_option maxHeartbeats 1000000 in
set_option maxRecDepth 100000 in
theorem c_l1Num : ∀ (m u : Nat), u ≤ m → u < 1000000000000000000 → ∀ w : World,
    Calls Tryz.prog 87 #[.int .i64 (u : Int)] w fun e w' => e = .returned (.string ⟨(Lib.decDigits u).toArray⟩) ∧ Below w.heap.size w w' := by
  intro m
  induction m with
  | zero =>
    intro u hu hu2 w
    have h10 : (u : Int) < 10 := by omega
    have hcv := conv1 u (by omega)
    go_enter Tryz.func87, Tryz.ntmps87
    go_wp2
    go_ret
    refine ⟨rfl, ?_⟩
    (repeat' (first | (with_reducible exact Below.refl _ _) | (with_reducible refine below_step (by assumption) ?_ ?_) | (with_reducible refine Below.alloc ?_ ?_ _) | (with_reducible refine Below.setCell ?_ ?_ _) | (with_reducible refine below_drewN ?_ _) | (with_reducible refine Below.drew ?_) | omega | (simp; omega) | (simp; done)))
  | succ m ih =>
    intro u hu hu2 w
    by_cases h10 : u < 10
    · have h10' : (u : Int) < 10 := by omega
      have hcv := conv1 u h10
      go_enter Tryz.func87, Tryz.ntmps87
      go_wp2
      go_ret
      refine ⟨rfl, ?_⟩
      (repeat' (first | (with_reducible exact Below.refl _ _) | (with_reducible refine below_step (by assumption) ?_ ?_) | (with_reducible refine Below.alloc ?_ ?_ _) | (with_reducible refine Below.setCell ?_ ?_ _) | (with_reducible refine below_drewN ?_ _) | (with_reducible refine Below.drew ?_) | omega | (simp; omega) | (simp; done)))
    · have h10' : ¬ ((u : Int) < 10) := by omega
      have hcv := conv1 (u % 10) (by omega)
      have ih' := ih (u / 10) (by omega) (by omega)
      have hs := dec_app u h10
      have z1 := dec_size (u / 10) (by omega)
      have z2 := dec_size (u % 10) (by omega)
      rw [Int.natCast_emod] at hcv
      rw [Int.natCast_ediv] at ih'
      generalize (⟨(Lib.decDigits (u / 10)).toArray⟩ : ByteArray) = A at *
      generalize (⟨(Lib.decDigits (u % 10)).toArray⟩ : ByteArray) = B at *
      have HA := fun w => run_string_add_sum (P := Tryz.prog) w A B (by omega)
      have HS := Lib.hid hs
      have IH := Lib.hid ih'
      clear ih ih' hs
      go_enter Tryz.func87, Tryz.ntmps87
      go_wp2
      refine wp_region_cls [] (fun _ => false) (fun _ => True) (fun _ => True) (by kernel_rfl) trivial ?_
      apply wpAnyF_hd ⟨w, Over.refl _ _, trivial⟩ [true, true, false, true, true, true, true] 5 (Closed.true) (fun _ _ => trivial) (by kernel_rfl) (by kernel_rfl) (by kernel_rfl) (by kernel_rfl) (by simp)
      · intro E hE hEN hEn; (repeat (first | (refine wpHL_take ?_; go_big_quiet_step (fail); refine wpQuiet_nil ?_) | refine wpHL_skip ?_)); exact wpHL_end rfl
      refine wpAnyF_ready [2, 7] 4 (by kernel_rfl) (by kernel_rfl) (by simp) ?_
      refine AllF.cons ?_ (AllF.cons ?_ AllF.nil)
      · refine stepC_call (v := .string A) (some 12) (fun _ => True) (by rfl) (by rfl) (by rfl) (fun _ => by go_simp) Closed.true (fun w1 _ _ => (IH.out w1).mono fun _ _ ⟨he, hb⟩ => ⟨he, Over.of_below hb, trivial⟩) (fun hne => ?_)
        simp only [Act.put, List.setIfInBounds_toArray, List.set_cons_succ, List.set_cons_zero]
        refine wpAnyF_ready [7] 3 (by kernel_rfl) (by kernel_rfl) (by simp) (AllF.cons ?_ AllF.nil)
        refine stepN_new (d := 17) (fun r => .slice (some ⟨r, 0, none⟩) 1 1) #[.int .u8 (48 + (u : Int) % 10)] 5 (by rfl) (by rfl) (by rfl) (fun _ => by go_simp) Closed.true (fun r hr hne => ?_)
        simp only [Act.put, List.setIfInBounds_toArray, List.set_cons_succ, List.set_cons_zero]
        refine wpAnyF_N (N' := Blk r #[.int .u8 (48 + (u : Int) % 10)] 5) ?_
        apply wpAnyF_hd hne [false, false, false, false, false, false, false, false, true, true, true] 0 (Closed.and Closed.true (Blk.closed _ _ _)) (fun _ h => h.2) (by kernel_rfl) (by kernel_rfl) (by kernel_rfl) (by kernel_rfl) (by simp)
        · intro E hE hEN hEn; have hk : ∀ c : Cls [] w E, c.wd.cell? ⟨r, 0, none⟩ = some (.int .u8 (48 + (u : Int) % 10)) := fun c => (hEN _ c.more).cell 0; (repeat (first | (refine wpHL_take ?_; go_big_quiet_step (fail); refine wpQuiet_nil ?_) | refine wpHL_skip ?_)); exact wpHL_end rfl
        refine wpAnyF_done (by kernel_rfl) (fun Wz hOz hDz => NoPanic.normal ?_) _
        try dsimp only
        go_wp2
        go_ret
        exact ⟨congrArg (fun s => Ending.returned (.string s)) HS.out, hOz.below⟩
      · refine stepN_new (d := 17) (fun r => .slice (some ⟨r, 0, none⟩) 1 1) #[.int .u8 (48 + (u : Int) % 10)] 5 (by rfl) (by rfl) (by rfl) (fun _ => by go_simp) Closed.true (fun r hr hne => ?_)
        simp only [Act.put, List.setIfInBounds_toArray, List.set_cons_succ, List.set_cons_zero]
        refine wpAnyF_N (N' := Blk r #[.int .u8 (48 + (u : Int) % 10)] 5) ?_
        apply wpAnyF_hd hne [false, false, false, false, false, false, false, false, true] 3 (Closed.and Closed.true (Blk.closed _ _ _)) (fun _ h => h.2) (by kernel_rfl) (by kernel_rfl) (by kernel_rfl) (by kernel_rfl) (by simp)
        · intro E hE hEN hEn; have hk : ∀ c : Cls [] w E, c.wd.cell? ⟨r, 0, none⟩ = some (.int .u8 (48 + (u : Int) % 10)) := fun c => (hEN _ c.more).cell 0; (repeat (first | (refine wpHL_take ?_; go_big_quiet_step (fail); refine wpQuiet_nil ?_) | refine wpHL_skip ?_)); exact wpHL_end rfl
        refine wpAnyF_ready [2] 2 (by kernel_rfl) (by kernel_rfl) (by simp) (AllF.cons ?_ AllF.nil)
        refine stepN_call (v := .string A) (some 12) (fun w' => True ∧ Blk r #[.int .u8 (48 + (u : Int) % 10)] 5 w') (by rfl) (by rfl) (by rfl) (fun _ => by go_simp) (Closed.and Closed.true (Blk.closed _ _ _)) (fun _ h => h.2) (fun w1 _ hd => (IH.out w1).mono fun _ _ ⟨he, hb⟩ => ⟨he, Over.of_below hb, trivial, Blk.closed _ _ _ _ _ hd.2 hb⟩) (fun hne => ?_)
        simp only [Act.put, List.setIfInBounds_toArray, List.set_cons_succ, List.set_cons_zero]
        apply wpAnyF_hd hne [false, false, false, false, false, false, false, false, false, true, true] 0 (Closed.and Closed.true (Blk.closed _ _ _)) (fun _ h => h.2) (by kernel_rfl) (by kernel_rfl) (by kernel_rfl) (by kernel_rfl) (by simp)
        · intro E hE hEN hEn; (repeat (first | (refine wpHL_take ?_; go_big_quiet_step (fail); refine wpQuiet_nil ?_) | refine wpHL_skip ?_)); exact wpHL_end rfl
        refine wpAnyF_done (by kernel_rfl) (fun Wz hOz hDz => NoPanic.normal ?_) _
        try dsimp only
        go_wp2
        go_ret
        exact ⟨congrArg (fun s => Ending.returned (.string s)) HS.out, hOz.below⟩
end Go.Proofs.YtgjdgcmmlfmhmaaGreatDoor

/- Wtx -/
namespace Go.Proofs.YtgjdgcmmlfmhmaaGreatDoor
open Go.RowKit

/-- a digit to the base 10000, as it stands; filled up to four signs -/
def d4 (x : Int) : List UInt8 := Lib.decDigits x.toNat
def pad4 (x : Int) : List UInt8 := List.replicate (4 - (d4 x).length) 48 ++ d4 x
theorem d4_len {x : Int} (h : 0 ≤ x ∧ x ≤ 9999) : 1 ≤ (d4 x).length ∧ (d4 x).length ≤ 4 := by
  unfold d4
  rw [Lib.decDigits_length]
  refine ⟨Lib.nDigits_pos _, ?_⟩
  by_cases h1 : x.toNat < 10
  · rw [Lib.nDigits_small h1]; omega
  · rw [Lib.nDigits_big h1]
    by_cases h2 : x.toNat / 10 < 10
    · rw [Lib.nDigits_small h2]; omega
    · rw [Lib.nDigits_big h2]
      by_cases h3 : x.toNat / 10 / 10 < 10
      · rw [Lib.nDigits_small h3]; omega
      · rw [Lib.nDigits_big h3, Lib.nDigits_small (by omega)]
        omega
theorem pad4_len {x : Int} (h : 0 ≤ x ∧ x ≤ 9999) : (pad4 x).length = 4 := by
  have := d4_len h
  unfold pad4
  simp
  omega
theorem itoa_d4 {x : Int} (h : 0 ≤ x) : Lib.itoa x = d4 x := by
  unfold Lib.itoa d4
  rw [if_neg (by omega)]
/-- digits, the greatest first, as text -/
def wtR : List Int → List UInt8
  | [] => []
  | x :: r => d4 x ++ (r.map pad4).flatten
theorem wtR_snoc (R : List Int) (x : Int) : wtR (R ++ [x]) = wtR R ++ (if R = [] then d4 x else pad4 x) := by
  cases R with
  | nil => simp [wtR]
  | cons y r => simp [wtR]
theorem wtR_len : ∀ {R : List Int}, (∀ x ∈ R, 0 ≤ x ∧ x ≤ 9999) → (wtR R).length ≤ 4 * R.length
  | [], _ => by simp [wtR]
  | x :: r, h => by
    have h1 := (d4_len (h x (by simp))).2
    have h2 : ∀ (l : List Int), (∀ y ∈ l, 0 ≤ y ∧ y ≤ 9999) → ((l.map pad4).flatten).length = 4 * l.length := by
      intro l
      induction l with
      | nil => intro _; rfl
      | cons y l ih =>
        intro hy
        rw [List.map_cons, List.flatten_cons, List.length_append, pad4_len (hy y (by simp)), ih (fun z hz => hy z (by simp [hz]))]
        simp; omega
    have h3 := h2 r (fun y hy => h y (by simp [hy]))
    simp only [wtR, List.length_append, List.length_cons, h3]
    omega
/-- the text of the first digits, from above -/
def wtK (L : List Int) (k : Nat) : List UInt8 := wtR (L.reverse.take k)
theorem wtK_succ (L : List Int) (k : Nat) (h : k < L.length) : wtK L (k + 1) = wtK L k ++ (if k = 0 then d4 (L[L.length - 1 - k]?.getD 0) else pad4 (L[L.length - 1 - k]?.getD 0)) := by
  unfold wtK
  have hr : k < L.reverse.length := by simpa using h
  rw [List.take_succ_eq_append_getElem hr, wtR_snoc, List.getElem_reverse, List.getElem?_eq_getElem (by omega)]
  by_cases hk : k = 0
  · subst hk; simp
  · have hne : L.reverse.take k ≠ [] := by
      intro h9
      have h8 : (L.reverse.take k).length = 0 := by rw [h9]; rfl
      rw [List.length_take, List.length_reverse] at h8
      omega
    rw [if_neg hk, if_neg hne]
    rfl
theorem wtK_zero (L : List Int) : wtK L 0 = [] := rfl
theorem wtK_len {L : List Int} (h : Dg L) (k : Nat) : (wtK L k).length ≤ 4 * L.length := by
  have := wtR_len (R := L.reverse.take k) (fun x hx => h x (List.mem_reverse.1 (List.mem_of_mem_take hx)))
  have h2 : (L.reverse.take k).length ≤ L.length := by simp; omega
  unfold wtK
  omega
noncomputable def wtx (K : Int) : List UInt8 := if (dg K.natAbs) = [] then [48] else (if K < 0 then [45] else []) ++ wtK (dg K.natAbs) (dg K.natAbs).length
theorem Below.builder {T e : TypeId} {B b : Nat} {bs : List Value} {w w1 : World} (h : Lib.IsBuilder T e B b bs w) (hb : Below w.heap.size w w1) : Lib.IsBuilder T e B b bs w1 := by
  have key : ∀ p, Lib.BuilderAt T e B b p bs w → Lib.BuilderAt T e B b p bs w1 := fun p ⟨hB, v, hh, ho, hne⟩ => by
    have hlt : b < w.heap.size := Lib.BuilderAt.lt ⟨hB, v, hh, ho, hne⟩
    refine ⟨hB, v, (hb.block b hlt).trans hh, ⟨ho.1, ?_⟩, hne⟩
    rcases ho.2 with h0 | ⟨g, cap, cur, hv, hg, hh2, r⟩
    · exact .inl h0
    · exact .inr ⟨g, cap, cur, hv, hg, (hb.block g (Array.getElem?_eq_some_iff.1 hh2).1).trans hh2, r⟩
  exact h.imp (key _) (key _)
theorem RdL.getC {w : World} {v : Value} {L : List Int} (h : RdL w v L) {i : Nat} (hi : i < L.length) : ∃ g o, (∃ cap, v = .slice (some ⟨g, o, none⟩) L.length cap) ∧ w.cell? ⟨g, o + i, none⟩ = some (.int .i64 (L[i]?.getD 0)) ∧ g < w.heap.size := by
  obtain ⟨a, cap, hv, _, hc⟩ := h
  obtain ⟨g, o, ha, q, hg⟩ := hc i hi
  exact ⟨g, o, ⟨cap, by rw [hv, ha]⟩, q, hg⟩
theorem c_writeS (b : Nat) (l : List UInt8) (s : ByteArray) (w : World) (h : Lib.IsBuilder 96 5 b b (Lib.byteCells l) w) (hl : l.length + s.size ≤ 100000) (hb : b ≤ w.heap.size) :
    Calls Tryz.prog 83 #[.pointer (some ⟨b, 0, none⟩), .string s] w fun e w' => e = .returned (.tuple #[.int .i64 s.size, .nilIface]) ∧ Lib.IsBuilder 96 5 b b (Lib.byteCells (l ++ s.data.toList)) w' ∧ Below b w w' := by
  have hlen : (Lib.byteCells l).length = l.length := by simp [Lib.byteCells]
  have e : Lib.byteCells (l ++ s.data.toList) = Lib.byteCells l ++ Lib.strCells s := by rw [Lib.strCells_eq]; simp [Lib.byteCells]
  rw [e]
  exact (Any.Builder_WriteString { Tryz.lays105 with } Tryz.Builder_Extra_105 b b (Lib.byteCells l) s w h (by rw [hlen]; omega) hb).mono fun _ _ ⟨h1, h2, h3⟩ => ⟨h1, .inr h2, h3⟩
set_option maxHeartbeats 2000000 in
set_option maxRecDepth 20000 in
theorem c_wholeText (K : Int) (a : Value) (hl : (dg K.natAbs).length ≤ 1000) (w : World) (ht : TabI w) (ha : WhR K a w) :
    Calls Tryz.prog 48 #[a] w fun e w' => e = .returned (.string ⟨(wtx K).toArray⟩) ∧ Below w.heap.size w w' := by
  obtain ⟨la, rfl, hr⟩ := ha
  have hD := (dg_Dg K.natAbs).1
  have hsg : K < 0 → dg K.natAbs ≠ [] := fun h h2 => by have := dg_nil.1 h2; omega
  have hwt : wtx K = if (dg K.natAbs) = [] then [48] else (if K < 0 then [45] else []) ++ wtK (dg K.natAbs) (dg K.natAbs).length := rfl
  have HR := Lib.hid hr
  have HT := Lib.hid ht
  obtain ⟨ra, cap, rfl, _, _⟩ := hr
  have kA := (Blk.new w #[.bool (decide (K < 0)), .slice ra (dg K.natAbs).length cap] 37).alloc (.cells #[.pointer none, .slice none 0 0] 96)
  have hb0 : Below w.heap.size w ((w.alloc (.cells #[.bool (decide (K < 0)), .slice ra (dg K.natAbs).length cap] 37)).alloc (.cells #[.pointer none, .slice none 0 0] 96)) := ((Below.refl _ _).alloc (Nat.le_refl _) _).alloc (by simp) _
  have hI := Lib.fresh_isBuilder 96 5 (w.alloc (.cells #[.bool (decide (K < 0)), .slice ra (dg K.natAbs).length cap] 37))
  simp only [World.size_alloc] at hI
  have hsz : ((w.alloc (.cells #[.bool (decide (K < 0)), .slice ra (dg K.natAbs).length cap] 37)).alloc (.cells #[.pointer none, .slice none 0 0] 96)).heap.size = w.heap.size + 1 + 1 := by simp
  have HW := Lib.hid hwt
  generalize wtx K = TXT at *
  generalize hLd : dg K.natAbs = L at *
  have HLD := Lib.hid hLd
  obtain ⟨n, hn⟩ : ∃ n, L.length = n := ⟨_, rfl⟩
  have HN := Lib.hid hn
  rw [hn] at kA hb0 hI hsz hl ⊢
  clear hwt hLd hn ht
  have HS : Hid (decide (K < 0) = true → L ≠ []) := fun h => hsg (by simpa using h)
  have HK : Hid ((if K < 0 then [45] else [] : List UInt8) = if decide (K < 0) then [45] else []) := by show _ = _; by_cases h : K < 0 <;> simp [h]
  clear hsg
  generalize decide (K < 0) = sg at *
  go_enter Tryz.func48, Tryz.ntmps48
  go_upto_region 2 with (fail)
  generalize hWW : (w.alloc _).alloc _ = W at *
  clear hWW
  obtain ⟨b, hb⟩ : ∃ b, w.heap.size + 1 = b := ⟨_, rfl⟩
  rw [hb] at hI hsz ⊢
  have hwb : w.heap.size < b := by omega
  clear hb
  have hbW : b ≤ W.heap.size := by omega
  have a0 : W.cell? ⟨w.heap.size, 0, none⟩ = some (.bool sg) := kA.cell 0
  have a1 : W.cell? ⟨w.heap.size, 1, none⟩ = some (.slice ra n cap) := kA.cell 1
  have HMAIN : Hid (∀ wr m, m < n → Below w.heap.size w wr → ∃ g o, ra = some ⟨g, o, none⟩ ∧ wr.cell? ⟨g, o + m, none⟩ = some (.int .i64 (L[m]?.getD 0)) ∧ (0 ≤ L[m]?.getD 0 ∧ L[m]?.getD 0 ≤ 9999)) := fun wr m hm hbw => by
    have hm' : m < L.length := by rw [HN.out]; exact hm
    obtain ⟨g, o, ⟨c, hv⟩, q, _⟩ := (HR.out.below hbw).getC hm'
    injection hv with e _ _
    refine ⟨g, o, e, q, ?_⟩
    rw [List.getElem?_eq_getElem hm']
    exact hD _ (List.getElem_mem hm')
  have hKL : Hid (∀ k, (wtK L k).length ≤ 4000) := fun k => by
    have := wtK_len hD k
    have := HN.out
    omega
  clear hD HR
  cases sg
  · have hB : Below b W W := Below.refl _ _
    go_wp2
    go_loopw [4] (fun iv wr => ∃ m : Nat, m ≤ n ∧ iv = .int .i64 ((m : Int) - 1) ∧ Lib.IsBuilder 96 5 b b (Lib.byteCells ([] ++ wtK L (n - m))) wr ∧ Below b W wr) (fun iv _ => (intOf iv + 1).toNat)
    case atStart => exact ⟨n, Nat.le_refl _, rfl, by rw [Nat.sub_self, wtK_zero]; exact hI, hB⟩
    case round =>
      obtain ⟨m, hm, rfl, hq, hbb⟩ := hrel
      clear hI hB
      have hbs := hbb.size
      have hbr : b ≤ wr.heap.size := by omega
      have hbw : Below w.heap.size w wr := hb0.trans (hbb.mono (by omega))
      have a0 : wr.cell? ⟨w.heap.size, 0, none⟩ = some (.bool _) := (hbb.cell (p := ⟨w.heap.size, 0, none⟩) hwb).trans a0
      have a1 : wr.cell? ⟨w.heap.size, 1, none⟩ = some (.slice ra n cap) := (hbb.cell (p := ⟨w.heap.size, 1, none⟩) hwb).trans a1
      cases m with
      | zero =>
        rw [Nat.sub_zero] at hq
        by_cases hn0 : n = 0
        · have hL0 : L = [] := List.length_eq_zero_iff.1 (by rw [HN.out]; exact hn0)
          have hv : Hid (TXT = [48]) := HW.out.trans (if_pos hL0)
          have hz : (n : Int) = 0 := by omega
          clear HMAIN HW HS HK HLD
          go_wp2
          refine bodyPost_ret (v := .string ⟨#[48]⟩) (by simp [results, Tryz.results48, go_sem]) rfl ?_
          exact ⟨by rw [hv.out], hbw⟩
        · have hL0 : L ≠ [] := fun h => hn0 (by rw [← HN.out, h]; rfl)
          have hv : Hid (TXT = [] ++ wtK L n) := by
            show _ = _
            rw [HW.out, if_neg hL0, HK.out, HN.out]
            rfl
          have hz : ¬ (n : Int) = 0 := by omega
          have HC := Lib.hid (Tryz.Builder_String_any b b ([] ++ wtK L n) wr hq hbr)
          clear HMAIN HW HS HK HLD hq
          go_wp2_with fail
          refine HC.out.mono ?_
          rintro e w9 ⟨rfl, hb9⟩
          have hbw9 : Below w.heap.size w w9 := hbw.trans (hb9.mono (by omega))
          go_wp2
          refine bodyPost_ret (v := .string ⟨([] ++ wtK L n).toArray⟩) (by simp [results, Tryz.results48, go_sem]) rfl ?_
          exact ⟨by rw [hv.out], hbw9⟩
      | succ j =>
        have hj : ((j + 1 : Nat) : Int) - 1 = (j : Int) := by omega
        rw [hj]
        obtain ⟨g, o, hra, qx, hx⟩ := HMAIN.out wr j (by omega) hbw
        subst hra
        have HK2 : Hid (wtK L (n - j) = wtK L (n - (j + 1)) ++ (if n - (j + 1) = 0 then d4 (L[j]?.getD 0) else pad4 (L[j]?.getD 0))) := by
          have h1 := wtK_succ L (n - (j + 1)) (by rw [HN.out]; omega)
          rw [show n - (j + 1) + 1 = n - j by omega, HN.out, show n - 1 - (n - (j + 1)) = j by omega] at h1
          exact h1
        have hkl := hKL.out (n - (j + 1))
        generalize L[j]?.getD 0 = x at *
        have hdl := d4_len hx
        have HIT := Lib.hid (c_itoa x (by omega) (by omega) wr (HT.out.below hbw))
        rw [itoa_d4 hx.1] at HIT
        obtain ⟨S, hS⟩ : ∃ S : ByteArray, (⟨(d4 x).toArray⟩ : ByteArray) = S := ⟨_, rfl⟩
        have hSd : Hid (S.data.toList = d4 x) := by show _ = _; rw [← hS]
        have hSz : S.size = (d4 x).length := by rw [← hS]; show (d4 x).toArray.size = _; simp
        have HSZ := Lib.hid hSz
        have hsb : 1 ≤ S.size ∧ S.size ≤ 4 := by omega
        clear hSz
        rw [hS] at HIT
        clear hS
        have i0 : (0 : Int) ≤ (j : Int) := by omega
        have i1 : (j : Int) < (n : Int) := by omega
        go_wp2_with fail
        refine HIT.out.mono ?_
        rintro e w1 ⟨rfl, hb1⟩
        have hq1 := Below.builder hq hb1
        have hbb1 : Below b W w1 := hbb.trans (hb1.mono hbr)
        have hbw1 : Below w.heap.size w w1 := hbw.trans (hb1.mono (by omega))
        have hs1 := hb1.size
        have a0 := (hb1.cell (p := ⟨w.heap.size, 0, none⟩) (show w.heap.size < wr.heap.size by omega)).trans a0
        have a1 := (hb1.cell (p := ⟨w.heap.size, 1, none⟩) (show w.heap.size < wr.heap.size by omega)).trans a1
        clear hq HIT hb1 qx
        by_cases hf : j + 1 = n
        · have hnl : ¬ (j : Int) < (n : Int) - 1 := by omega
          have he : Hid ([] ++ wtK L (n - (j + 1)) ++ S.data.toList = [] ++ wtK L (n - j)) := by show _ = _; rw [HK2.out, if_pos (by omega), hSd.out, List.append_assoc]
          have HC := Lib.hid (c_writeS b ([] ++ wtK L (n - (j + 1))) S w1 hq1 (by simp; omega) (by omega))
          rw [he.out] at HC
          clear hq1 he HK2
          go_wp2_with fail
          refine HC.out.mono ?_
          rintro e w2 ⟨rfl, hq2, hb2⟩
          have hbb2 : Below b W w2 := hbb1.trans hb2
          go_wp2
          go_roundw
          case rel => exact ⟨j, by omega, by go_num, hq2, hbb2⟩
          case measure => simp [intOf]
        · have hnl : (j : Int) < (n : Int) - 1 := by omega
          obtain ⟨q, hqq⟩ : ∃ q : Nat, (4 : Int) - (S.size : Int) = (q : Int) := ⟨4 - S.size, by omega⟩
          have hrep : Hid (Lib.repeatL [48] q = List.replicate (4 - (d4 x).length) 48) := by
            show _ = _
            have h1 := Lib.repeatL_replicate 48 1 q
            rw [show List.replicate 1 (48 : UInt8) = [48] from rfl] at h1
            rw [h1]
            congr 1
            have := HSZ.out
            omega
          have HRP := Lib.hid (Tryz.strings_Repeat ⟨#[48]⟩ q w1 (by omega) (by show 1 * q ≤ _; omega))
          obtain ⟨RB, hRB⟩ : ∃ RB : ByteArray, (⟨(Lib.repeatL (⟨#[48]⟩ : ByteArray).data.toList q).toArray⟩ : ByteArray) = RB := ⟨_, rfl⟩
          have hRd : Hid (RB.data.toList = List.replicate (4 - (d4 x).length) 48) := by show _ = _; rw [← hRB]; exact hrep.out
          have hRz : RB.size = 4 - (d4 x).length := by
            have := congrArg List.length hRd.out
            rw [← Lib.size_eq] at this
            simpa using this
          have hrb : RB.size ≤ 4 := by omega
          rw [hRB] at HRP
          clear hRB hrep hRz
          go_wp2_with fail
          refine HRP.out.mono ?_
          rintro e w2 ⟨rfl, hb2⟩
          have hq2 := Below.builder hq1 hb2
          have hbb2 : Below b W w2 := hbb1.trans (hb2.mono (by omega))
          have hs2 := hb2.size
          have HC := Lib.hid (c_writeS b ([] ++ wtK L (n - (j + 1))) RB w2 hq2 (by simp; omega) (by omega))
          clear hq1 hq2 HRP hb2
          go_wp2_with fail
          refine HC.out.mono ?_
          rintro e w3 ⟨rfl, hq3, hb3⟩
          have hbb3 : Below b W w3 := hbb2.trans hb3
          have hs3 := hb3.size
          have he : Hid ([] ++ wtK L (n - (j + 1)) ++ RB.data.toList ++ S.data.toList = [] ++ wtK L (n - j)) := by show _ = _; rw [HK2.out, if_neg (by omega), hSd.out, hRd.out]; simp [pad4]
          have HC2 := Lib.hid (c_writeS b ([] ++ wtK L (n - (j + 1)) ++ RB.data.toList) S w3 hq3 (by rw [hRd.out]; simp; omega) (by omega))
          rw [he.out] at HC2
          clear HC hq3 hb3 he HK2
          go_wp2_with fail
          refine HC2.out.mono ?_
          rintro e w4 ⟨rfl, hq4, hb4⟩
          have hbb4 : Below b W w4 := hbb3.trans hb4
          go_wp2
          go_roundw
          case rel => exact ⟨j, by omega, by go_num, hq4, hbb4⟩
          case measure => simp [intOf]
  · have HC := Lib.hid (c_writeS b [] ⟨#[45]⟩ W hI (by decide) hbW)
    clear hI
    go_wp2_with fail
    refine HC.out.mono ?_
    rintro e W2 ⟨rfl, hI, hB⟩
    have b0 := (hB.cell (p := ⟨w.heap.size, 0, none⟩) hwb).trans a0
    have b1 := (hB.cell (p := ⟨w.heap.size, 1, none⟩) hwb).trans a1
    clear HC
    go_wp2
    go_loopw [4] (fun iv wr => ∃ m : Nat, m ≤ n ∧ iv = .int .i64 ((m : Int) - 1) ∧ Lib.IsBuilder 96 5 b b (Lib.byteCells ([45] ++ wtK L (n - m))) wr ∧ Below b W wr) (fun iv _ => (intOf iv + 1).toNat)
    case atStart => exact ⟨n, Nat.le_refl _, rfl, by rw [Nat.sub_self, wtK_zero]; exact hI, hB⟩
    case round =>
      obtain ⟨m, hm, rfl, hq, hbb⟩ := hrel
      clear hI hB
      have hbs := hbb.size
      have hbr : b ≤ wr.heap.size := by omega
      have hbw : Below w.heap.size w wr := hb0.trans (hbb.mono (by omega))
      have a0 : wr.cell? ⟨w.heap.size, 0, none⟩ = some (.bool _) := (hbb.cell (p := ⟨w.heap.size, 0, none⟩) hwb).trans a0
      have a1 : wr.cell? ⟨w.heap.size, 1, none⟩ = some (.slice ra n cap) := (hbb.cell (p := ⟨w.heap.size, 1, none⟩) hwb).trans a1
      cases m with
      | zero =>
        rw [Nat.sub_zero] at hq
        by_cases hn0 : n = 0
        · have hL0 : L = [] := List.length_eq_zero_iff.1 (by rw [HN.out]; exact hn0)
          have hv : Hid (TXT = [48]) := HW.out.trans (if_pos hL0)
          have hz : (n : Int) = 0 := by omega
          clear HMAIN HW HS HK HLD
          go_wp2
          refine bodyPost_ret (v := .string ⟨#[48]⟩) (by simp [results, Tryz.results48, go_sem]) rfl ?_
          exact ⟨by rw [hv.out], hbw⟩
        · have hL0 : L ≠ [] := fun h => hn0 (by rw [← HN.out, h]; rfl)
          have hv : Hid (TXT = [45] ++ wtK L n) := by
            show _ = _
            rw [HW.out, if_neg hL0, HK.out, HN.out]
            rfl
          have hz : ¬ (n : Int) = 0 := by omega
          have HC := Lib.hid (Tryz.Builder_String_any b b ([45] ++ wtK L n) wr hq hbr)
          clear HMAIN HW HS HK HLD hq
          go_wp2_with fail
          refine HC.out.mono ?_
          rintro e w9 ⟨rfl, hb9⟩
          have hbw9 : Below w.heap.size w w9 := hbw.trans (hb9.mono (by omega))
          go_wp2
          refine bodyPost_ret (v := .string ⟨([45] ++ wtK L n).toArray⟩) (by simp [results, Tryz.results48, go_sem]) rfl ?_
          exact ⟨by rw [hv.out], hbw9⟩
      | succ j =>
        have hj : ((j + 1 : Nat) : Int) - 1 = (j : Int) := by omega
        rw [hj]
        obtain ⟨g, o, hra, qx, hx⟩ := HMAIN.out wr j (by omega) hbw
        subst hra
        have HK2 : Hid (wtK L (n - j) = wtK L (n - (j + 1)) ++ (if n - (j + 1) = 0 then d4 (L[j]?.getD 0) else pad4 (L[j]?.getD 0))) := by
          have h1 := wtK_succ L (n - (j + 1)) (by rw [HN.out]; omega)
          rw [show n - (j + 1) + 1 = n - j by omega, HN.out, show n - 1 - (n - (j + 1)) = j by omega] at h1
          exact h1
        have hkl := hKL.out (n - (j + 1))
        generalize L[j]?.getD 0 = x at *
        have hdl := d4_len hx
        have HIT := Lib.hid (c_itoa x (by omega) (by omega) wr (HT.out.below hbw))
        rw [itoa_d4 hx.1] at HIT
        obtain ⟨S, hS⟩ : ∃ S : ByteArray, (⟨(d4 x).toArray⟩ : ByteArray) = S := ⟨_, rfl⟩
        have hSd : Hid (S.data.toList = d4 x) := by show _ = _; rw [← hS]
        have hSz : S.size = (d4 x).length := by rw [← hS]; show (d4 x).toArray.size = _; simp
        have HSZ := Lib.hid hSz
        have hsb : 1 ≤ S.size ∧ S.size ≤ 4 := by omega
        clear hSz
        rw [hS] at HIT
        clear hS
        have i0 : (0 : Int) ≤ (j : Int) := by omega
        have i1 : (j : Int) < (n : Int) := by omega
        go_wp2_with fail
        refine HIT.out.mono ?_
        rintro e w1 ⟨rfl, hb1⟩
        have hq1 := Below.builder hq hb1
        have hbb1 : Below b W w1 := hbb.trans (hb1.mono hbr)
        have hbw1 : Below w.heap.size w w1 := hbw.trans (hb1.mono (by omega))
        have hs1 := hb1.size
        have a0 := (hb1.cell (p := ⟨w.heap.size, 0, none⟩) (show w.heap.size < wr.heap.size by omega)).trans a0
        have a1 := (hb1.cell (p := ⟨w.heap.size, 1, none⟩) (show w.heap.size < wr.heap.size by omega)).trans a1
        clear hq HIT hb1 qx
        by_cases hf : j + 1 = n
        · have hnl : ¬ (j : Int) < (n : Int) - 1 := by omega
          have he : Hid ([45] ++ wtK L (n - (j + 1)) ++ S.data.toList = [45] ++ wtK L (n - j)) := by show _ = _; rw [HK2.out, if_pos (by omega), hSd.out, List.append_assoc]
          have HC := Lib.hid (c_writeS b ([45] ++ wtK L (n - (j + 1))) S w1 hq1 (by simp; omega) (by omega))
          rw [he.out] at HC
          clear hq1 he HK2
          go_wp2_with fail
          refine HC.out.mono ?_
          rintro e w2 ⟨rfl, hq2, hb2⟩
          have hbb2 : Below b W w2 := hbb1.trans hb2
          go_wp2
          go_roundw
          case rel => exact ⟨j, by omega, by go_num, hq2, hbb2⟩
          case measure => simp [intOf]
        · have hnl : (j : Int) < (n : Int) - 1 := by omega
          obtain ⟨q, hqq⟩ : ∃ q : Nat, (4 : Int) - (S.size : Int) = (q : Int) := ⟨4 - S.size, by omega⟩
          have hrep : Hid (Lib.repeatL [48] q = List.replicate (4 - (d4 x).length) 48) := by
            show _ = _
            have h1 := Lib.repeatL_replicate 48 1 q
            rw [show List.replicate 1 (48 : UInt8) = [48] from rfl] at h1
            rw [h1]
            congr 1
            have := HSZ.out
            omega
          have HRP := Lib.hid (Tryz.strings_Repeat ⟨#[48]⟩ q w1 (by omega) (by show 1 * q ≤ _; omega))
          obtain ⟨RB, hRB⟩ : ∃ RB : ByteArray, (⟨(Lib.repeatL (⟨#[48]⟩ : ByteArray).data.toList q).toArray⟩ : ByteArray) = RB := ⟨_, rfl⟩
          have hRd : Hid (RB.data.toList = List.replicate (4 - (d4 x).length) 48) := by show _ = _; rw [← hRB]; exact hrep.out
          have hRz : RB.size = 4 - (d4 x).length := by
            have := congrArg List.length hRd.out
            rw [← Lib.size_eq] at this
            simpa using this
          have hrb : RB.size ≤ 4 := by omega
          rw [hRB] at HRP
          clear hRB hrep hRz
          go_wp2_with fail
          refine HRP.out.mono ?_
          rintro e w2 ⟨rfl, hb2⟩
          have hq2 := Below.builder hq1 hb2
          have hbb2 : Below b W w2 := hbb1.trans (hb2.mono (by omega))
          have hs2 := hb2.size
          have HC := Lib.hid (c_writeS b ([45] ++ wtK L (n - (j + 1))) RB w2 hq2 (by simp; omega) (by omega))
          clear hq1 hq2 HRP hb2
          go_wp2_with fail
          refine HC.out.mono ?_
          rintro e w3 ⟨rfl, hq3, hb3⟩
          have hbb3 : Below b W w3 := hbb2.trans hb3
          have hs3 := hb3.size
          have he : Hid ([45] ++ wtK L (n - (j + 1)) ++ RB.data.toList ++ S.data.toList = [45] ++ wtK L (n - j)) := by show _ = _; rw [HK2.out, if_neg (by omega), hSd.out, hRd.out]; simp [pad4]
          have HC2 := Lib.hid (c_writeS b ([45] ++ wtK L (n - (j + 1)) ++ RB.data.toList) S w3 hq3 (by rw [hRd.out]; simp; omega) (by omega))
          rw [he.out] at HC2
          clear HC hq3 hb3 he HK2
          go_wp2_with fail
          refine HC2.out.mono ?_
          rintro e w4 ⟨rfl, hq4, hb4⟩
          have hbb4 : Below b W w4 := hbb3.trans hb4
          go_wp2
          go_roundw
          case rel => exact ⟨j, by omega, by go_num, hq4, hbb4⟩
          case measure => simp [intOf]
def strSz : Value → Nat
  | .string s => s.size
  | _ => 0
set_option maxHeartbeats 2000000 in
set_option maxRecDepth 20000 in
theorem c_bgText (K : Int) (a : Value) (hl : (dg K.natAbs).length ≤ 1000) (w : World) (ha : WhR K a w) :
    Calls Tryz.prog 49 #[a] w fun e w' => e = .returned (.string ⟨(wtx K).toArray⟩) ∧ Below w.heap.size w w' := by
  obtain ⟨la, rfl, hr⟩ := ha
  have hD := (dg_Dg K.natAbs).1
  have hwt : wtx K = if (dg K.natAbs) = [] then [48] else (if K < 0 then [45] else []) ++ wtK (dg K.natAbs) (dg K.natAbs).length := rfl
  have HR := Lib.hid hr
  obtain ⟨ra, cap, rfl, _, _⟩ := hr
  have kA := Blk.new w #[.bool (decide (K < 0)), .slice ra (dg K.natAbs).length cap] 37
  have hb0 : Below w.heap.size w (w.alloc (.cells #[.bool (decide (K < 0)), .slice ra (dg K.natAbs).length cap] 37)) := (Below.refl _ _).alloc (Nat.le_refl _) _
  have hsz : (w.alloc (.cells #[.bool (decide (K < 0)), .slice ra (dg K.natAbs).length cap] 37)).heap.size = w.heap.size + 1 := by simp
  have HW := Lib.hid hwt
  generalize wtx K = TXT at *
  generalize hLd : dg K.natAbs = L at *
  obtain ⟨n, hn⟩ : ∃ n, L.length = n := ⟨_, rfl⟩
  have HN := Lib.hid hn
  rw [hn] at kA hb0 hsz hl ⊢
  clear hwt hLd hn
  have HK : Hid ((if K < 0 then [45] else [] : List UInt8) = if decide (K < 0) then [45] else []) := by show _ = _; by_cases h : K < 0 <;> simp [h]
  generalize decide (K < 0) = sg at *
  have HMAIN : Hid (∀ wr m, m < n → Below w.heap.size w wr → ∃ g o, ra = some ⟨g, o, none⟩ ∧ wr.cell? ⟨g, o + m, none⟩ = some (.int .i64 (L[m]?.getD 0)) ∧ (0 ≤ L[m]?.getD 0 ∧ L[m]?.getD 0 ≤ 9999)) := fun wr m hm hbw => by
    have hm' : m < L.length := by rw [HN.out]; exact hm
    obtain ⟨g, o, ⟨c, hv⟩, q, _⟩ := (HR.out.below hbw).getC hm'
    injection hv with e _ _
    refine ⟨g, o, e, q, ?_⟩
    rw [List.getElem?_eq_getElem hm']
    exact hD _ (List.getElem_mem hm')
  have hKL : Hid (∀ k, (wtK L k).length ≤ 4000) := fun k => by
    have := wtK_len hD k
    have := HN.out
    omega
  clear hD HR
  go_enter Tryz.func49, Tryz.ntmps49
  go_upto_region 1 with (fail)
  generalize hWW : w.alloc _ = W at *
  clear hWW
  have hwb : w.heap.size < W.heap.size := by omega
  have a0 : W.cell? ⟨w.heap.size, 0, none⟩ = some (.bool sg) := kA.cell 0
  have a1 : W.cell? ⟨w.heap.size, 1, none⟩ = some (.slice ra n cap) := kA.cell 1
  cases n with
  | zero =>
    have hL0 : L = [] := List.length_eq_zero_iff.1 HN.out
    have hv : Hid (TXT = [48]) := HW.out.trans (if_pos hL0)
    clear HMAIN HW HK
    go_wp2
    refine bodyPost_ret (v := .string ⟨#[48]⟩) (by simp [results, Tryz.results49, go_sem]) rfl ?_
    exact ⟨by rw [hv.out], hb0⟩
  | succ p =>
    have hL0 : L ≠ [] := fun h => by have := HN.out; rw [h] at this; simp at this
    have hv : Hid (TXT = (if sg then [45] else []) ++ wtK L (p + 1)) := by
      show _ = _
      rw [HW.out, if_neg hL0, HK.out, HN.out]
    have hp1 : ((p + 1 : Nat) : Int) - 1 = (p : Int) := by omega
    have hp2 : ((p + 1 : Nat) : Int) - 2 = (p : Int) - 1 := by omega
    have hp0 : ¬ ((p + 1 : Nat) : Int) = 0 := by omega
    obtain ⟨g, o, hra, qx, hx⟩ := HMAIN.out W p (by omega) hb0
    subst hra
    have HK0 : Hid (wtK L 1 = d4 (L[p]?.getD 0)) := by
      have h1 := wtK_succ L 0 (by rw [HN.out]; omega)
      rw [if_pos rfl, wtK_zero, HN.out] at h1
      show _ = _
      simpa using h1
    have HL1 := Lib.hid (c_l1Num (L[p]?.getD 0).toNat (L[p]?.getD 0).toNat (Nat.le_refl _) (by omega) W)
    rw [Int.toNat_of_nonneg hx.1] at HL1
    clear HW HK hL0
    have HL2 : Hid (Calls Tryz.prog 87 #[.int .i64 (L[p]?.getD 0)] W fun e w' => e = .returned (.string ⟨(wtK L 1).toArray⟩) ∧ Below W.heap.size W w') := by
      show Calls _ _ _ _ _
      rw [HK0.out]
      exact HL1.out
    clear HL1 HK0
    generalize L[p]?.getD 0 = x at *
    clear hx
    go_wp2_with fail
    refine HL2.out.mono ?_
    rintro e w1 ⟨rfl, hb1⟩
    have hbb1 : Below w.heap.size w w1 := below_step hb1 hb0.size hb0
    have a0 := (hb1.cell (p := ⟨w.heap.size, 0, none⟩) hwb).trans a0
    have a1 := (hb1.cell (p := ⟨w.heap.size, 1, none⟩) hwb).trans a1
    have hwb1 : w.heap.size < w1.heap.size := Nat.lt_of_lt_of_le hwb hb1.size
    clear HL2 qx hb1 hwb kA hb0
    go_wp2
    go_loopw [4, 5] (fun sv iv wr => ∃ m : Nat, m ≤ p ∧ iv = .int .i64 ((m : Int) - 1) ∧ sv = .string ⟨(wtK L (p + 1 - m)).toArray⟩ ∧ Below w1.heap.size w1 wr) (fun _ iv _ => (intOf iv + 1).toNat)
    case atStart => exact ⟨p, Nat.le_refl _, by congr 1, by rw [Nat.add_sub_cancel_left], Below.refl _ _⟩
    case round =>
      obtain ⟨m, hm, rfl, rfl, hq⟩ := hrel
      have hbw : Below w.heap.size w wr := below_step hq hbb1.size hbb1
      have a0 := (hq.cell (p := ⟨w.heap.size, 0, none⟩) hwb1).trans a0
      have a1 := (hq.cell (p := ⟨w.heap.size, 1, none⟩) hwb1).trans a1
      have hkl := hKL.out (p + 1 - m)
      cases m with
      | zero =>
        rw [Nat.sub_zero] at hkl ⊢
        cases sg
        · clear HMAIN
          go_wp2
          refine bodyPost_ret (v := .string ⟨(wtK L (p + 1)).toArray⟩) (by simp [results, Tryz.results49, go_sem]) rfl ?_
          exact ⟨by rw [hv.out]; rfl, hbw⟩
        · have hsz1 : (⟨(wtK L (p + 1)).toArray⟩ : ByteArray).size ≤ 4000 := by show (wtK L (p + 1)).toArray.size ≤ _; simpa using hkl
          have z1 : (⟨#[45]⟩ : ByteArray).size = 1 := rfl
          have hcat : Hid ((⟨#[45]⟩ : ByteArray) ++ ⟨(wtK L (p + 1)).toArray⟩ = ⟨TXT.toArray⟩) := by
            show _ = _
            rw [hv.out]
            apply ByteArray.ext
            simp
          generalize (⟨(wtK L (p + 1)).toArray⟩ : ByteArray) = B at *
          have HA := fun w => run_string_add_sum (P := Tryz.prog) w ⟨#[45]⟩ B (by omega)
          clear HMAIN
          go_wp2
          refine bodyPost_ret (v := .string (⟨#[45]⟩ ++ B)) (by simp [results, Tryz.results49, go_sem]) rfl ?_
          exact ⟨by rw [hcat.out], hbw⟩
      | succ j =>
        have hj : ((j + 1 : Nat) : Int) - 1 = (j : Int) := by omega
        rw [hj, show p + 1 - (j + 1) = p - j by omega]
        rw [show p + 1 - (j + 1) = p - j by omega] at hkl
        obtain ⟨g', o', hra, qx, hx⟩ := HMAIN.out wr j (by omega) hbw
        injection hra with hra
        injection hra with hr1 hr2
        subst hr1 hr2
        have HK2 : Hid (wtK L (p + 1 - j) = wtK L (p - j) ++ pad4 (L[j]?.getD 0)) := by
          have h1 := wtK_succ L (p - j) (by rw [HN.out]; omega)
          rw [if_neg (by omega), show p - j + 1 = p + 1 - j by omega, HN.out, show p + 1 - 1 - (p - j) = j by omega] at h1
          exact h1
        have HL1 := Lib.hid (c_l1Num (L[j]?.getD 0).toNat (L[j]?.getD 0).toNat (Nat.le_refl _) (by omega) wr)
        rw [Int.toNat_of_nonneg hx.1] at HL1
        generalize L[j]?.getD 0 = x2 at *
        have hdl := d4_len hx
        replace HL1 : Hid (Calls Tryz.prog 87 #[.int .i64 x2] wr fun e w' => e = .returned (.string ⟨(d4 x2).toArray⟩) ∧ Below wr.heap.size wr w') := HL1
        have i0 : (0 : Int) ≤ (j : Int) := by omega
        have i1 : (j : Int) < ((p + 1 : Nat) : Int) := by omega
        go_wp2_with fail
        refine HL1.out.mono ?_
        rintro e w2 ⟨rfl, hb2⟩
        have hq2 : Below w1.heap.size w1 w2 := below_step hb2 hq.size hq
        clear HL1 qx hb2 hq hbw a0 a1
        have hst : Hid ((⟨(d4 x2).toArray⟩ : ByteArray) = ⟨(List.replicate 0 48 ++ d4 x2).toArray⟩) := by show _ = _; simp
        have hd4 : Hid ((d4 x2).length = (d4 x2).length) := rfl
        obtain ⟨D, hDD⟩ : ∃ D, d4 x2 = D := ⟨_, rfl⟩
        have HP4 : Hid (pad4 x2 = List.replicate (4 - D.length) 48 ++ D) := by show _ = _; rw [← hDD]; rfl
        rw [hDD] at hdl ⊢
        clear hst hd4 hDD hx
        go_wp2
        go_loopw [6] (fun tv wq => ∃ q : Nat, q + D.length ≤ 4 ∧ tv = .string ⟨(List.replicate q 48 ++ D).toArray⟩ ∧ w2 = wq) (fun tv _ => 4 - strSz tv)
        case atStart => exact ⟨0, by omega, by simp, rfl⟩
        case round =>
          obtain ⟨q, hq4, rfl, rfl⟩ := hrel
          have hsq : (⟨(List.replicate q 48 ++ D).toArray⟩ : ByteArray).size = q + D.length := by show (List.replicate q 48 ++ D).toArray.size = _; simp
          by_cases hlt : q + D.length < 4
          · have hcat : Hid ((⟨#[48]⟩ : ByteArray) ++ ⟨(List.replicate q 48 ++ D).toArray⟩ = ⟨(List.replicate (q + 1) 48 ++ D).toArray⟩) := by
              show _ = _
              apply ByteArray.ext
              simp [List.replicate_succ]
            have hsq2 : (⟨(List.replicate (q + 1) 48 ++ D).toArray⟩ : ByteArray).size = q + 1 + D.length := by show (List.replicate (q + 1) 48 ++ D).toArray.size = _; simp
            have HS2 := Lib.hid hsq2
            have HS1 := Lib.hid hsq
            clear hsq2
            generalize (⟨(List.replicate q 48 ++ D).toArray⟩ : ByteArray) = B at *
            have hB4 : (B.size : Int) < 4 := by omega
            have z1 : (⟨#[48]⟩ : ByteArray).size = 1 := rfl
            have HA := fun w => run_string_add_sum (P := Tryz.prog) w ⟨#[48]⟩ B (by omega)
            clear hsq
            go_wp2
            go_roundw
            case rel => exact ⟨q + 1, by omega, by rw [hcat.out], trivial⟩
            case measure =>
              have h1 := HS1.out
              have h2 := HS2.out
              rw [← hcat.out] at h2
              simp only [strSz]
              omega
          · have hqe : q = 4 - D.length := by omega
            have he : Hid ((⟨(wtK L (p - j)).toArray⟩ : ByteArray) ++ ⟨(List.replicate q 48 ++ D).toArray⟩ = ⟨(wtK L (p + 1 - j)).toArray⟩) := by
              show _ = _
              rw [HK2.out, HP4.out, hqe]
              apply ByteArray.ext
              simp
            have hA4 : (⟨(wtK L (p - j)).toArray⟩ : ByteArray).size ≤ 4000 := by show (wtK L (p - j)).toArray.size ≤ _; simpa using hkl
            clear hqe HK2 HP4
            generalize (⟨(List.replicate q 48 ++ D).toArray⟩ : ByteArray) = B at *
            generalize (⟨(wtK L (p - j)).toArray⟩ : ByteArray) = A at *
            have hB4 : ¬ (B.size : Int) < 4 := by omega
            have hB6 : (4 : Int) ≤ (B.size : Int) := by omega
            have hB5 : B.size ≤ 4 := by omega
            clear hsq hlt
            have HA := fun w => run_string_add_sum (P := Tryz.prog) w A B (by omega)
            go_wp2
            go_roundw
            case rel => exact ⟨j, by omega, by go_num, by rw [he.out], hq2⟩
            case measure => simp [intOf]
end Go.Proofs.YtgjdgcmmlfmhmaaGreatDoor

/- Tbl -/
namespace Go.Proofs.YtgjdgcmmlfmhmaaGreatDoor
open Go.RowKit

section
variable {P : Program} {ops : Array Oper} {Q : Exit → Act → World → Prop}
theorem count_set_true {l : List Bool} {i : Nat} (h : l[i]? = some false) : (l.set i true).count false + 1 = l.count false := by
  induction l generalizing i with
  | nil => simp at h
  | cons b l ih =>
    cases i with
    | zero =>
      simp at h
      subst h
      simp
    | succ i =>
      have := ih (i := i) (by simpa using h)
      cases b <;> simp at this ⊢ <;> omega
/-- what an operation waits for -/
def depsR (ops : Array Oper) (i : Nat) : List Nat := match ops[i]? with
  | some o => (o.after.toList.filter (Region.binds .any ·)).map (·.on)
  | none => []
/-- what an operation waits for, directly or through others (rows of a table) -/
def reachR (ops : Array Oper) : Nat → List (List Nat)
  | 0 => []
  | k + 1 => let t := reachR ops k; t ++ [(depsR ops k ++ (depsR ops k).flatMap fun d => t.getD d []).eraseDups]
/-- the operations marked in fl come first, all of them -/
def phaseR (ops : Array Oper) (fl : List Bool) : Bool :=
  decide (fl.length = ops.size) && (List.range ops.size).all fun i =>
    (depsR ops i).all (fun d => decide (d < i)) && (if fl.getD i false then (depsR ops i).all (fun d => fl.getD d false) else (List.range ops.size).all fun j => !fl.getD j false || ((reachR ops ops.size).getD i []).contains j)
theorem reachR_len (ops : Array Oper) : ∀ k, (reachR ops k).length = k
  | 0 => rfl
  | k + 1 => by simp [reachR, reachR_len ops k]
theorem reachR_pre (ops : Array Oper) (k : Nat) : ∀ m i, i < k → (reachR ops (k + m)).getD i [] = (reachR ops k).getD i []
  | 0, _, _ => rfl
  | m + 1, i, h => by
    have := reachR_pre ops k m i h
    rw [← this, show k + (m + 1) = (k + m) + 1 by omega, reachR]
    simp only [List.getD_eq_getElem?_getD]
    rw [List.getElem?_append_left (by rw [reachR_len]; omega)]
/-- a set of operations that waits for nothing outside -/
def ClosedL (ops : Array Oper) (L : Nat → Prop) : Prop := ∀ i, L i → ∀ d ∈ depsR ops i, L d
theorem reach_mem {L : Nat → Prop} (hL : ClosedL ops L) : ∀ k i, i < k → (∀ d ∈ depsR ops i, d < i) → (∀ i' < i, ∀ d ∈ depsR ops i', d < i') → (∀ d ∈ depsR ops i, L d) → ∀ j ∈ (reachR ops k).getD i [], L j := by
  intro k
  induction k with
  | zero => intro i h; omega
  | succ k ih =>
    intro i hi hd hd' hl j hj
    by_cases hik : i < k
    · rw [reachR_pre ops k 1 i hik] at hj
      exact ih i hik hd hd' hl j hj
    · obtain rfl : i = k := by omega
      rw [reachR] at hj
      simp only [List.getD_eq_getElem?_getD] at hj
      rw [List.getElem?_append_right (by rw [reachR_len]; omega)] at hj
      rw [reachR_len] at hj
      simp only [Nat.sub_self, List.getElem?_cons_zero, Option.getD_some, List.mem_eraseDups, List.mem_append, List.mem_flatMap] at hj
      rcases hj with hj | ⟨d, hdm, hj⟩
      · exact hl j hj
      · refine ih d (hd d hdm) (hd' d (hd d hdm)) (fun i' h' => hd' i' (by have := hd d hdm; omega)) (hL d (hl d hdm)) j ?_
        simpa [List.getD_eq_getElem?_getD] using hj
theorem mem_depsR {i d : Nat} : d ∈ depsR ops i ↔ ∃ o, ops[i]? = some o ∧ ∃ e ∈ o.after, Region.binds .any e = true ∧ e.on = d := by
  unfold depsR
  cases h : ops[i]? with
  | none => simp
  | some o =>
    simp only [List.mem_map, List.mem_filter, Option.some.injEq]
    constructor
    · rintro ⟨e, ⟨he, hb⟩, rfl⟩
      exact ⟨o, rfl, e, by simpa using he, hb, rfl⟩
    · rintro ⟨o', rfl, e, he, hb, rfl⟩
      exact ⟨e, ⟨by simpa using he, hb⟩, rfl⟩
/-- slots and the operations that fill them, in the text's order -/
def dstR (ops : Array Oper) (fl : List Bool) : List (Nat × Nat) := (List.range ops.size).filterMap fun i => if fl.getD i false then (match ops[i]? with | some o => o.dst.map fun d => (i, d) | none => none) else none
def putR (a : Act) (dl : List (Nat × Nat)) (vs : Nat → Value) : Act := dl.foldl (fun b p => b.put (some p.2) (vs p.1)) a
def dstOkR (ops : Array Oper) (fl : List Bool) (n : Nat) : Bool :=
  ((List.range ops.size).all fun i => !fl.getD i false || match ops[i]? with | some o => (match o.dst with | some d => decide (d < n) | none => false) | none => false) && decide ((dstR ops fl).map (·.2)).Nodup
/-- an operation leaves a value of which R holds, and has but made memory -/
def OpTo (P : Program) (o : Oper) (ρ : Operand → Value) (w : World) (R : Value → World → Prop) : Prop :=
  (∃ v w', (execOp ρ o).run P w = .ok (.value v) w' ∧ Below w.heap.size w w' ∧ R v w') ∨
  (∃ f args, (execOp ρ o).run P w = .ok (.enter f args) w ∧ Calls P f args w fun e w' => ∃ v, e = .returned v ∧ Below w.heap.size w w' ∧ R v w')
theorem OpTo.wpOp {o : Oper} {a : Act} {w : World} {R : Value → World → Prop} {i : Nat} (h : OpTo P o a.eval w R) (ho : ops[i]? = some o) (hg : o.guard = none) {K : Act → World → Prop}
    (hK : ∀ v w', Below w.heap.size w w' → R v w' → K (a.put o.dst v) w') : wpOp P ops Q i K a w := by
  unfold Go.wpOp
  simp only [ho]
  rw [if_pos (by simp [Region.wanted, hg])]
  refine .inl ?_
  unfold Oper.wp
  rcases h with ⟨v, w', hr, hb, hR⟩ | ⟨f, args, hr, hc⟩
  · rw [hr]
    exact hK v w' hb hR
  · rw [hr]
    refine hc.mono fun e w' ⟨v, he, hb, hR⟩ => ?_
    subst he
    exact hK v w' hb hR
/-- a new variable: its block -/
def PA (lo : Nat) (zs : Array Value) (T : TypeId) : Value → World → Prop := fun v w => ∃ r, v = .pointer (some ⟨r, 0, none⟩) ∧ lo ≤ r ∧ Blk r zs T w
theorem PA.closed (lo : Nat) (zs : Array Value) (T : TypeId) (v : Value) : Closed (PA lo zs T v) := fun _ _ ⟨r, h1, h2, h3⟩ hb => ⟨r, h1, h2, h3.next hb⟩
/-- operation i comes up when all that it waits for has -/
def StepT (P : Program) (ops : Array Oper) (fl : List Bool) (al : List Nat) (a0 : Act) (W : World) (PV : Nat → Value → World → Prop) (i : Nat) : Prop :=
  ∀ o, ops[i]? = some o → ∀ (a : Act) (w : World), Below W.heap.size W w → (∀ t, (∀ p ∈ dstR ops fl, p.2 ≠ t) → a.tmps[t]? = a0.tmps[t]?) → (∀ d ∈ depsR ops i, ∀ od t, ops[d]? = some od → od.dst = some t → ∃ v, a.tmps[t]? = some v ∧ PV d v w) →
    OpTo P o a.eval w fun v w' => PV i v w' ∧ (i ∈ al → v = .pointer (some ⟨w.heap.size, 0, none⟩))
structure RegI (ops : Array Oper) (fl : List Bool) (al : List Nat) (a0 : Act) (W : World) (PV : Nat → Value → World → Prop) (listed : Array Bool) (a : Act) (w : World) : Prop where
  size : listed.size = ops.size
  clo : ∀ i, listed.getD i false = true → ∀ d ∈ depsR ops i, listed.getD d false = true
  sub : ∀ i, listed.getD i false = true → fl.getD i false = true
  val : ∀ i o d, listed.getD i false = true → ops[i]? = some o → o.dst = some d → ∃ v, a.tmps[d]? = some v ∧ PV i v w
  bas : ∀ t, (∀ p ∈ dstR ops fl, p.2 ≠ t) → a.tmps[t]? = a0.tmps[t]?
  siz : a.tmps.size = a0.tmps.size
  dfr : a.defers = a0.defers
  ovr : Below W.heap.size W w
  sep : ∀ i j oi oj di dj, i ≠ j → i ∈ al → j ∈ al → listed.getD i false = true → listed.getD j false = true → ops[i]? = some oi → ops[j]? = some oj → oi.dst = some di → oj.dst = some dj → a.tmps[di]? ≠ a.tmps[dj]?
theorem mem_dstR {fl : List Bool} {p : Nat × Nat} : p ∈ dstR ops fl ↔ fl.getD p.1 false = true ∧ ∃ o, ops[p.1]? = some o ∧ o.dst = some p.2 := by
  unfold dstR
  rw [List.mem_filterMap]
  constructor
  · rintro ⟨i, hi, h⟩
    split at h
    · rename_i hf
      cases ho : ops[i]? with
      | none => rw [ho] at h; cases h
      | some o =>
        rw [ho] at h
        cases hd : o.dst with
        | none => simp only [hd] at h; cases h
        | some d =>
          simp only [hd, Option.map_some, Option.some.injEq] at h
          subst h
          exact ⟨hf, o, ho, hd⟩
    · cases h
  · rintro ⟨hf, o, ho, hd⟩
    refine ⟨p.1, List.mem_range.2 (Array.getElem?_eq_some_iff.1 ho).1, ?_⟩
    rw [if_pos hf, ho]
    simp [hd]
theorem put_tmps (a : Act) (d : Nat) (v : Value) (t : Nat) : (a.put (some d) v).tmps[t]? = if d = t then (if t < a.tmps.size then some v else none) else a.tmps[t]? := by
  simp only [Act.put]
  rw [Array.getElem?_setIfInBounds]
  split
  · rename_i h
    subst h
    rfl
  · rfl
theorem putR_tmps (vs : Nat → Value) : ∀ (dl : List (Nat × Nat)) (a : Act) (t : Nat), (dl.map (·.2)).Nodup → (putR a dl vs).tmps[t]? = (match dl.find? (fun p => p.2 == t) with | some p => if t < a.tmps.size then some (vs p.1) else none | none => a.tmps[t]?) ∧ (putR a dl vs).tmps.size = a.tmps.size ∧ (putR a dl vs).defers = a.defers
  | [], a, t, _ => ⟨rfl, rfl, rfl⟩
  | p :: dl, a, t, hn => by
    rw [List.map_cons, List.nodup_cons] at hn
    obtain ⟨h1, h2, h3⟩ := putR_tmps vs dl (a.put (some p.2) (vs p.1)) t hn.2
    have hs : (a.put (some p.2) (vs p.1)).tmps.size = a.tmps.size := put_size _ _ _
    have e : putR a (p :: dl) vs = putR (a.put (some p.2) (vs p.1)) dl vs := rfl
    rw [e]
    refine ⟨?_, h2.trans hs, h3.trans rfl⟩
    rw [h1, List.find?_cons]
    by_cases hp : p.2 = t
    · have hno : dl.find? (fun p => p.2 == t) = none := by
        rw [List.find?_eq_none]
        intro q hq hqt
        have hqt' : q.2 = t := by simpa using hqt
        exact hn.1 (List.mem_map.2 ⟨q, hq, hqt'.trans hp.symm⟩)
      rw [hno]
      simp only [show (p.2 == t) = true by simpa using hp]
      rw [put_tmps, if_pos hp]
    · simp only [show (p.2 == t) = false by simpa using hp]
      cases hf : dl.find? (fun p => p.2 == t) with
      | none => simp only []; rw [put_tmps, if_neg hp]
      | some q => simp only []; rw [hs]
theorem nodup_snd : ∀ {l : List (Nat × Nat)}, (l.map (·.2)).Nodup → ∀ {p q : Nat × Nat}, p ∈ l → q ∈ l → p.2 = q.2 → p = q
  | [], _, p, _, hp, _, _ => by cases hp
  | x :: l, hn, p, q, hp, hq, e => by
    rw [List.map_cons, List.nodup_cons] at hn
    rcases List.mem_cons.1 hp with h1 | h1
    · rcases List.mem_cons.1 hq with h2 | h2
      · rw [h1, h2]
      · exact absurd (List.mem_map.2 ⟨q, h2, by rw [← e, h1]⟩) hn.1
    · rcases List.mem_cons.1 hq with h2 | h2
      · exact absurd (List.mem_map.2 ⟨p, h1, by rw [e, h2]⟩) hn.1
      · exact nodup_snd hn.2 h1 h2 e
theorem wpAny_table {fl : List Bool} {al : List Nat} {a0 : Act} {W : World} {PV : Nat → Value → World → Prop} (hph : phaseR ops fl = true) (hdk : dstOkR ops fl a0.tmps.size = true) (hgd : ∀ i o, fl.getD i false = true → ops[i]? = some o → o.guard = none) (hal : ∀ i ∈ al, ∃ lo zs T, PV i = PA lo zs T) (hcl : ∀ i v, Closed (PV i v))
    (hst : ∀ i, fl.getD i false = true → StepT P ops fl al a0 W PV i)
    (hrest : ∀ (vs : Nat → Value) (w : World), Below W.heap.size W w → (∀ p ∈ dstR ops fl, PV p.1 (vs p.1) w) → (∀ p ∈ dstR ops fl, ∀ q ∈ dstR ops fl, p.1 ≠ q.1 → p.1 ∈ al → q.1 ∈ al → vs p.1 ≠ vs q.1) → wpAny P .any ops Q (fl.count false) fl.toArray (putR a0 (dstR ops fl) vs) w) :
    ∀ (fuel : Nat) (listed : Array Bool) (a : Act) (w : World), RegI ops fl al a0 W PV listed a w → listed.toList.count false = fuel → wpAny P .any ops Q fuel listed a w := by
  unfold phaseR at hph
  simp only [Bool.and_eq_true, decide_eq_true_eq, List.all_eq_true, List.mem_range] at hph
  obtain ⟨hlen, hph⟩ := hph
  unfold dstOkR at hdk
  simp only [Bool.and_eq_true, decide_eq_true_eq, List.all_eq_true, List.mem_range] at hdk
  obtain ⟨hdst, hnod⟩ := hdk
  have hfl : ∀ i, fl.getD i false = true → i < ops.size := fun i h => by
    rcases Nat.lt_or_ge i fl.length with h' | h'
    · omega
    · rw [List.getD_eq_getElem?_getD, List.getElem?_eq_none h'] at h
      cases h
  have hacy : ∀ i, ∀ d ∈ depsR ops i, d < i := fun i d hd => by
    obtain ⟨o, ho, _⟩ := mem_depsR.1 hd
    exact (hph i (Array.getElem?_eq_some_iff.1 ho).1).1 d hd
  have hslot : ∀ i, fl.getD i false = true → ∃ o d, ops[i]? = some o ∧ o.dst = some d ∧ d < a0.tmps.size := fun i h => by
    have := hdst i (hfl i h)
    rw [h] at this
    simp only [Bool.not_true, Bool.false_or] at this
    cases ho : ops[i]? with
    | none => rw [ho] at this; cases this
    | some o =>
      rw [ho] at this
      cases hd : o.dst with
      | none => simp only [hd] at this; cases this
      | some d => simp only [hd, decide_eq_true_eq] at this; exact ⟨o, d, rfl, hd, this⟩
  -- all that come first have come up
  have hfin : ∀ (listed : Array Bool) (a : Act) (w : World), RegI ops fl al a0 W PV listed a w → (∀ i, fl.getD i false = true → listed.getD i false = true) → wpAny P .any ops Q (listed.toList.count false) listed a w := fun listed a w hI hall => by
    have e1 : listed = fl.toArray := by
      apply Array.ext
      · rw [hI.size]; simpa using hlen.symm
      · intro i h1 h2
        have h2' : i < fl.length := by simpa using h2
        have f1 : listed.getD i false = listed[i] := by simp [Array.getD_eq_getD_getElem?, h1]
        have f2 : fl.getD i false = fl[i] := by simp [List.getD_eq_getElem?_getD, h2']
        have h3 : fl.toArray[i] = fl[i] := by simp
        rw [h3]
        cases hx : listed[i] with
        | true =>
          have h := hI.sub i (by rw [f1, hx])
          rw [f2] at h
          exact h.symm
        | false =>
          cases hy : fl[i] with
          | false => rfl
          | true =>
            have h := hall i (by rw [f2, hy])
            rw [f1, hx] at h
            exact h
    let vs : Nat → Value := fun i => match ops[i]? with | some o => (match o.dst with | some d => a.tmps[d]?.getD undef | none => undef) | none => undef
    have hvs : ∀ p ∈ dstR ops fl, a.tmps[p.2]? = some (vs p.1) ∧ PV p.1 (vs p.1) w := fun p hp => by
      obtain ⟨hf, o, ho, hd⟩ := mem_dstR.1 hp
      obtain ⟨v, hv, hpv⟩ := hI.val p.1 o p.2 (hall _ hf) ho hd
      have : vs p.1 = v := by
        show (match ops[p.1]? with | some o => (match o.dst with | some d => a.tmps[d]?.getD undef | none => undef) | none => undef) = v
        rw [ho]
        simp only [hd, hv, Option.getD_some]
      rw [this]
      exact ⟨hv, hpv⟩
    have e2 : a = putR a0 (dstR ops fl) vs := by
      obtain ⟨_, h2, h3⟩ := putR_tmps vs (dstR ops fl) a0 0 hnod
      have ht : a.tmps = (putR a0 (dstR ops fl) vs).tmps := by
        apply Array.ext_getElem?
        intro t
        rw [(putR_tmps vs (dstR ops fl) a0 t hnod).1]
        cases hf : (dstR ops fl).find? (fun p => p.2 == t) with
        | none =>
          rw [List.find?_eq_none] at hf
          exact hI.bas t fun p hp e => hf p hp (by simpa using e)
        | some p =>
          have hp := List.mem_of_find?_eq_some hf
          have ht : p.2 = t := by simpa using List.find?_some hf
          have h1 := (hvs p hp).1
          rw [ht] at h1
          have hlt : t < a.tmps.size := (Array.getElem?_eq_some_iff.1 h1).1
          rw [hI.siz] at hlt
          simp only [hlt, if_true]
          exact h1
      cases a
      cases hq : putR a0 (dstR ops fl) vs
      rw [hq] at ht h3
      simp only at ht h3
      have hdf := hI.dfr
      simp only at hdf
      rw [ht, hdf, h3]
    rw [e2, e1]
    refine hrest vs w hI.ovr (fun p hp => (hvs p hp).2) fun p hp q hq hpq hpa hqa he => ?_
    obtain ⟨hf1, o1, ho1, hd1⟩ := mem_dstR.1 hp
    obtain ⟨hf2, o2, ho2, hd2⟩ := mem_dstR.1 hq
    exact hI.sep p.1 q.1 o1 o2 p.2 q.2 hpq hpa hqa (hall _ hf1) (hall _ hf2) ho1 ho2 hd1 hd2 (by rw [(hvs p hp).1, (hvs q hq).1, he])
  intro fuel
  induction fuel with
  | zero =>
    intro listed a w hI hc
    rw [← hc]
    refine hfin listed a w hI fun i hi => ?_
    have hlt : i < listed.size := by rw [hI.size]; exact hfl i hi
    cases hb : listed[i] with
    | true => simp [Array.getD_eq_getD_getElem?, hlt, hb]
    | false => exact absurd (by rw [← hb]; exact Array.getElem_mem_toList hlt) (List.count_eq_zero.1 hc)
  | succ fuel ih =>
    intro listed a w hI hc
    by_cases hall : ∀ i, fl.getD i false = true → listed.getD i false = true
    · rw [← hc]
      exact hfin listed a w hI hall
    · have hex : ∃ i, fl.getD i false = true ∧ listed.getD i false = false := by
        refine Classical.byContradiction fun hno => hall fun i hi => ?_
        cases hb : listed.getD i false with
        | true => rfl
        | false => exact absurd ⟨i, hi, hb⟩ hno
      refine ⟨fun h0 => ?_, fun i hi => ?_⟩
      · exfalso
        -- the least that has not come up would be ready
        have hmin : ∀ k i, i < k → fl.getD i false = true → listed.getD i false = false → False := by
          intro k
          induction k with
          | zero => intro i h; omega
          | succ k ihk =>
            intro i hik hf hb
            by_cases hdeps : ∀ d ∈ depsR ops i, listed.getD d false = true
            · have hlt := hfl i hf
              have hr : i ∈ Region.ready .any ops listed := by
                rw [mem_ready]
                refine ⟨?_, ops[i], by simp [hlt], fun e he hbd => hdeps _ (mem_depsR.2 ⟨ops[i], by simp [hlt], e, he, hbd, rfl⟩)⟩
                have hl : i < listed.size := by rw [hI.size]; exact hlt
                simpa [Array.getD_eq_getD_getElem?, hl] using hb
              rw [h0] at hr
              cases hr
            · have : ∃ d ∈ depsR ops i, listed.getD d false = false := by
                refine Classical.byContradiction fun hno => hdeps fun d hd => ?_
                cases hb' : listed.getD d false with
                | true => rfl
                | false => exact absurd ⟨d, hd, hb'⟩ hno
              obtain ⟨d, hd, hbd⟩ := this
              have hfd : fl.getD d false = true := by
                have := (hph i (hfl i hf)).2
                rw [if_pos hf, List.all_eq_true] at this
                exact this d hd
              exact ihk d (by have := hacy i d hd; omega) hfd hbd
        obtain ⟨i, hi, hb⟩ := hex
        exact hmin (i + 1) i (by omega) hi hb
      · obtain ⟨hun, o, ho, hdeps⟩ := mem_ready.1 hi
        have hlt : i < ops.size := (Array.getElem?_eq_some_iff.1 ho).1
        have hl : i < listed.size := by rw [hI.size]; exact hlt
        have hdl : ∀ d ∈ depsR ops i, listed.getD d false = true := fun d hd => by
          obtain ⟨o', ho', e, he, hbd, rfl⟩ := mem_depsR.1 hd
          rw [ho] at ho'
          obtain rfl := Option.some.inj ho'
          exact hdeps e he hbd
        have hfi : fl.getD i false = true := by
          refine Classical.byContradiction fun hno => ?_
          have := (hph i hlt).2
          rw [if_neg hno, List.all_eq_true] at this
          obtain ⟨j, hj, hbj⟩ := hex
          have hjr := this j (List.mem_range.2 (hfl j hj))
          rw [hj] at hjr
          simp only [Bool.not_true, Bool.false_or, List.contains_eq_mem, decide_eq_true_eq] at hjr
          have := reach_mem (L := fun j => listed.getD j false = true) (fun i h d hd => hI.clo i h d hd) ops.size i hlt (hacy i) (fun i' _ => hacy i') hdl j hjr
          rw [this] at hbj
          cases hbj
        obtain ⟨o', d, ho', hd, hdlt⟩ := hslot i hfi
        rw [ho] at ho'
        obtain rfl := Option.some.inj ho'
        have hdm : (i, d) ∈ dstR ops fl := mem_dstR.2 ⟨hfi, o, ho, hd⟩
        refine (hst i hfi o ho a w hI.ovr hI.bas (fun e he oe t hoe hoet => hI.val e oe t (hdl e he) hoe hoet)).wpOp ho (hgd i o hfi ho) fun v w' hb ⟨hpv, hva⟩ => ?_
        have hset : ∀ j, (listed.setIfInBounds i true).getD j false = true ↔ (j = i ∨ listed.getD j false = true) := fun j => by
          simp only [Array.getD_eq_getD_getElem?, Array.getElem?_setIfInBounds]
          by_cases hji : i = j
          · subst hji; simp [hl]
          · rw [if_neg hji]
            constructor
            · exact fun h => .inr h
            · rintro (h | h)
              · exact absurd h.symm hji
              · exact h
        refine ih _ _ _ ⟨by simpa using hI.size, fun j hj e he => ?_, fun j hj => ?_, fun j oj t hj hoj hjt => ?_, fun t ht => ?_, (put_size _ _ _).trans hI.siz, ?_, below_step hb hI.ovr.size hI.ovr, fun x y ox oy dx dy hxy hxa hya hxl hyl hox hoy hdx hdy => ?_⟩ ?_
        · rw [hset] at hj ⊢
          rcases hj with rfl | hj
          · exact .inr (hdl e he)
          · exact .inr (hI.clo j hj e he)
        · rw [hset] at hj
          rcases hj with rfl | hj
          · exact hfi
          · exact hI.sub j hj
        · rw [hset] at hj
          rw [hd, put_tmps]
          by_cases hji : j = i
          · subst hji
            rw [ho] at hoj
            obtain rfl := Option.some.inj hoj
            rw [hd] at hjt
            obtain rfl := Option.some.inj hjt
            rw [if_pos rfl, if_pos (by rw [hI.siz]; exact hdlt)]
            exact ⟨v, rfl, hpv⟩
          · have hj' : listed.getD j false = true := hj.resolve_left hji
            obtain ⟨u, hu, hpu⟩ := hI.val j oj t hj' hoj hjt
            have hne : d ≠ t := fun e => by
              subst e
              have hjm : (j, d) ∈ dstR ops fl := mem_dstR.2 ⟨hI.sub j hj', oj, hoj, hjt⟩
              exact hji (congrArg Prod.fst (nodup_snd hnod hjm hdm rfl))
            rw [if_neg hne]
            exact ⟨u, hu, hcl j u _ _ hpu hb⟩
        · rw [hd, put_tmps, if_neg (ht (i, d) hdm)]
          exact hI.bas t ht
        · rw [hd]; exact hI.dfr
        · rw [hset] at hxl hyl
          have hone : ∀ (p q : Nat) (op oq : Oper) (dp dq : Nat), p ≠ q → p ∈ al → q ∈ al → p = i → listed.getD q false = true → ops[p]? = some op → ops[q]? = some oq → op.dst = some dp → oq.dst = some dq → (a.put o.dst v).tmps[dp]? ≠ (a.put o.dst v).tmps[dq]? := by
            clear hxl hyl
            intro p q op oq dp dq hpq hpa hqa hpi hql hop hoq hdp hdq
            rw [hpi] at hop
            rw [ho] at hop
            obtain rfl := Option.some.inj hop
            rw [hd] at hdp
            obtain rfl := Option.some.inj hdp
            obtain ⟨u, hu, hpu⟩ := hI.val q oq dq hql hoq hdq
            have hne : d ≠ dq := fun e => by
              subst e
              have hqm : (q, d) ∈ dstR ops fl := mem_dstR.2 ⟨hI.sub q hql, oq, hoq, hdq⟩
              exact hpq (hpi.trans (congrArg Prod.fst (nodup_snd hnod hdm hqm rfl)))
            rw [hd, put_tmps, put_tmps, if_pos rfl, if_neg hne, if_pos (by rw [hI.siz]; exact hdlt), hu, hva (hpi ▸ hpa)]
            obtain ⟨lo, zs, T, hPA⟩ := hal q hqa
            rw [hPA] at hpu
            obtain ⟨r, rfl, _, hblk⟩ := hpu
            intro he
            have := hblk.lt
            simp only [Option.some.injEq, Value.pointer.injEq, Addr.mk.injEq] at he
            omega
          rcases hxl with hxi | hxl
          · rcases hyl with hyi | hyl
            · exact absurd (hxi.trans hyi.symm) hxy
            · exact hone x y ox oy dx dy hxy hxa hya hxi hyl hox hoy hdx hdy
          · rcases hyl with hyi | hyl
            · exact (hone y x oy ox dy dx (Ne.symm hxy) hya hxa hyi hxl hoy hox hdy hdx).symm
            · have hnd : ∀ (z : Nat) (oz : Oper) (dz : Nat), listed.getD z false = true → ops[z]? = some oz → oz.dst = some dz → d ≠ dz := fun z oz dz hzl hoz hdz e => by
                subst e
                have hzm : (z, d) ∈ dstR ops fl := mem_dstR.2 ⟨hI.sub z hzl, oz, hoz, hdz⟩
                have hzi : z = i := congrArg Prod.fst (nodup_snd hnod hzm hdm rfl)
                subst hzi
                have h1 : listed.getD z true = false := hun
                simp only [Array.getD_eq_getD_getElem?, Array.getElem?_eq_getElem hl, Option.getD_some] at h1 hzl
                rw [h1] at hzl
                cases hzl
              rw [hd, put_tmps, put_tmps, if_neg (hnd x ox dx hxl hox hdx), if_neg (hnd y oy dy hyl hoy hdy)]
              exact hI.sep x y ox oy dx dy hxy hxa hya hxl hyl hox hoy hdx hdy
        · have h2 : listed.toList[i]? = some false := by
            have : listed.getD i true = false := hun
            simp only [Array.getD_eq_getD_getElem?] at this
            rw [Array.getElem?_eq_getElem hl] at this
            rw [Array.getElem?_toList, Array.getElem?_eq_getElem hl]
            simpa using this
          have := count_set_true h2
          rw [Array.toList_setIfInBounds]
          omega
/-- the last operations, one behind another -/
def chainB (ops : Array Oper) : List Nat → Array Bool → Bool
  | [], listed => (Region.ready .any ops listed).isEmpty
  | i :: r, listed => Region.ready .any ops listed == [i] && chainB ops r (listed.setIfInBounds i true)
theorem wpAny_chain : ∀ (l : List Nat) (fuel : Nat) (listed : Array Bool) (a : Act) (w : World), chainB ops l listed = true → l.length = fuel → wpOps P ops Q l a w → wpAny P .any ops Q fuel listed a w
  | [], 0, listed, a, w, hc, _, h => ⟨by simpa [chainB] using hc, h⟩
  | i :: r, fuel + 1, listed, a, w, hc, hf, h => by
    simp only [chainB, Bool.and_eq_true, beq_iff_eq] at hc
    refine ⟨fun h0 => (by rw [hc.1] at h0; cases h0), fun j hj => ?_⟩
    rw [hc.1, List.mem_singleton] at hj
    subst hj
    rw [wpOps_cons] at h
    exact wpOp_mono (fun a w => wpAny_chain r fuel _ a w hc.2 (by simpa using hf)) h
  | [], _ + 1, _, _, _, _, hf, _ => by simp at hf
  | _ :: _, 0, _, _, _, _, hf, _ => by simp at hf
def flK (k m : Nat) : List Bool := List.replicate k true ++ List.replicate m false
/-- the first k operations come first; the others one behind another; no guards -/
def tabR (l : List Oper) (k n : Nat) : Bool :=
  decide (k ≤ l.length) && phaseR l.toArray (flK k (l.length - k)) && dstOkR l.toArray (flK k (l.length - k)) n && (l.take k).all (fun o => o.guard.isNone) && chainB l.toArray (List.range' k (l.length - k)) (flK k (l.length - k)).toArray
theorem flK_get {k m i : Nat} : (flK k m).getD i false = true ↔ i < k := by
  unfold flK
  rw [List.getD_eq_getElem?_getD]
  rcases Nat.lt_or_ge i k with h | h
  · rw [List.getElem?_append_left (by simpa using h)]
    simp [h]
  · rw [List.getElem?_append_right (by simpa using h)]
    simp only [List.length_replicate]
    rcases Nat.lt_or_ge (i - k) m with h' | h'
    · simp [h']; omega
    · simp [h']; omega
theorem flK_count (k m : Nat) : (flK k m).count false = m := by
  unfold flK
  rw [List.count_append]
  simp [List.count_replicate]
/-- a predicate a value, in a list -/
def pvL (L : List (Value → World → Prop)) (i : Nat) : Value → World → Prop := (L[i]?).getD fun _ _ => True
def ClosedLs : List (Value → World → Prop) → Prop
  | [] => True
  | p :: L => (∀ v, Closed (p v)) ∧ ClosedLs L
theorem ClosedLs.get : ∀ {L : List (Value → World → Prop)}, ClosedLs L → ∀ i v, Closed (pvL L i v)
  | [], _, _, _ => fun _ _ _ _ => trivial
  | _ :: _, h, 0, v => h.1 v
  | _ :: L, h, i + 1, v => by
    have := ClosedLs.get h.2 i v
    simpa [pvL] using this
def StepsT (P : Program) (ops : Array Oper) (fl : List Bool) (al : List Nat) (a0 : Act) (W : World) (L : List (Value → World → Prop)) : Nat → Nat → Prop
  | _, 0 => True
  | i, k + 1 => StepT P ops fl al a0 W (pvL L) i ∧ StepsT P ops fl al a0 W L (i + 1) k
theorem StepsT.get {fl : List Bool} {al : List Nat} {a0 : Act} {W : World} {L : List (Value → World → Prop)} : ∀ {k i j : Nat}, StepsT P ops fl al a0 W L i k → i ≤ j → j < i + k → StepT P ops fl al a0 W (pvL L) j
  | 0, _, _, _, h1, h2 => by omega
  | k + 1, i, j, h, h1, h2 => by
    by_cases hij : i = j
    · subst hij; exact h.1
    · exact StepsT.get h.2 (by omega) (by omega)
/-- all that comes first has come: the values are vs -/
def DoneT (L : List (Value → World → Prop)) (al : List Nat) (k : Nat) (vs : Nat → Value) (w : World) : Prop :=
  (∀ i, i < k → pvL L i (vs i) w) ∧ ∀ i j, i < k → j < k → i ≠ j → i ∈ al → j ∈ al → vs i ≠ vs j
def isPA (L : List (Value → World → Prop)) : List Nat → Prop
  | [] => True
  | i :: al => (∃ lo zs T, pvL L i = PA lo zs T) ∧ isPA L al
theorem isPA.get {L : List (Value → World → Prop)} : ∀ {al : List Nat}, isPA L al → ∀ i ∈ al, ∃ lo zs T, pvL L i = PA lo zs T
  | [], _, i, h => by cases h
  | j :: al, h, i, hi => by
    rcases List.mem_cons.1 hi with rfl | hi
    · exact h.1
    · exact isPA.get h.2 i hi
theorem repl_no {n i : Nat} (h : (Array.replicate n false).getD i false = true) : False := by
  rw [Array.getD_eq_getD_getElem?, Array.getElem?_replicate] at h
  split at h <;> simp at h
/-! one operation -/
section
variable {o : Oper} {ρ : Operand → Value} {w : World} {R : Value → World → Prop}
theorem OpTo.value (v : Value) (h : (execOp ρ o).run P w = .ok (.value v) w) (hR : R v w) : OpTo P o ρ w R := .inl ⟨v, w, h, Below.refl _ _, hR⟩
theorem OpTo.make (v : Value) (w' : World) (h : (execOp ρ o).run P w = .ok (.value v) w') (hb : Below w.heap.size w w') (hR : R v w') : OpTo P o ρ w R := .inl ⟨v, w', h, hb, hR⟩
theorem OpTo.move (x : Operand) (ho : o.op = .move x) (hR : R (ρ x) w) : OpTo P o ρ w R := .value _ (by unfold execOp; rw [ho]; rfl) hR
theorem OpTo.call (f : FuncId) (args : Array Value) (g : Operand) (xs : Array Operand) (ts : Array TypeId) (ho : o.op = .call { callee := .value g, args := xs, argTypes := ts }) (hg : ρ g = .func (.func f) #[] #[])
    (eg : ∀ args w, (callFunc f args).run P w = .ok (.enter f args) w) (ha : xs.map ρ = args) (hc : Calls P f args w fun e w' => ∃ v, e = .returned v ∧ Below w.heap.size w w' ∧ R v w') : OpTo P o ρ w R := by
  refine .inr ⟨f, args, ?_, hc⟩
  unfold execOp
  rw [ho]
  simp [resolve, hg, Deferred.ofValue, invoke, eg, ha]
theorem OpTo.alloc {lo : Nat} {zs : Array Value} {T : TypeId} (ho : o.op = .alloc T) (hr : ∀ w, (Instr.alloc T true (.tuple #[])).run P w = .ok (.pointer (some ⟨w.heap.size, 0, none⟩)) (w.alloc (.cells zs T))) (hlo : lo ≤ w.heap.size) :
    OpTo P o ρ w fun v w' => PA lo zs T v w' ∧ v = .pointer (some ⟨w.heap.size, 0, none⟩) :=
  .make _ (w.alloc (.cells zs T)) (by unfold execOp; rw [ho]; simp [hr]) ((Below.refl _ _).alloc (Nat.le_refl _) _) ⟨⟨_, rfl, hlo, Blk.new w zs T⟩, rfl⟩
end
def baseB (ops : Array Oper) (fl : List Bool) (t : Nat) : Bool := (dstR ops fl).all fun p => p.2 != t
def depB (ops : Array Oper) (i d t : Nat) : Bool := (depsR ops i).contains d && (ops[d]?.bind (·.dst)) == some t
theorem eval_lit (l : List Value) (d : List Deferred) (t : Nat) : Act.eval ⟨l.toArray, d⟩ (.tmp t) = (l[t]?).getD undef := by
  simp [Act.eval, Array.getD_eq_getD_getElem?]
theorem eval_of {a : Act} {t : Nat} {v : Value} (h : a.tmps[t]? = some v) : a.eval (.tmp t) = v := by
  simp [Act.eval, Array.getD_eq_getD_getElem?, h]
/-- what is known ahead of an operation -/
structure AtT (ops : Array Oper) (fl : List Bool) (l0 : List Value) (W : World) (PV : Nat → Value → World → Prop) (i : Nat) (ρ : Operand → Value) (w : World) : Prop where
  con : ∀ v, ρ (.const v) = v
  fn : ∀ f, ρ (.func f) = .func (.func f) #[] #[]
  bel : Below W.heap.size W w
  bas : ∀ t, baseB ops fl t = true → ρ (.tmp t) = (l0[t]?).getD undef
  dep : ∀ d t, depB ops i d t = true → ∃ v, ρ (.tmp t) = v ∧ PV d v w
theorem AtT.of {fl : List Bool} {l0 : List Value} {d0 : List Deferred} {W : World} {PV : Nat → Value → World → Prop} {i : Nat} {a : Act} {w : World} (hB : Below W.heap.size W w) (hb : ∀ t, (∀ p ∈ dstR ops fl, p.2 ≠ t) → a.tmps[t]? = (⟨l0.toArray, d0⟩ : Act).tmps[t]?)
    (hd : ∀ d ∈ depsR ops i, ∀ od t, ops[d]? = some od → od.dst = some t → ∃ v, a.tmps[t]? = some v ∧ PV d v w) : AtT ops fl l0 W PV i a.eval w := by
  refine ⟨fun _ => rfl, fun _ => rfl, hB, fun t ht => ?_, fun d t h => ?_⟩
  · have h1 := hb t (fun p hp => by
      have := List.all_eq_true.1 ht p hp
      simpa using this)
    rw [← eval_lit l0 d0 t]
    simp only [Act.eval, Array.getD_eq_getD_getElem?, h1]
  · unfold depB at h
    simp only [Bool.and_eq_true, List.contains_eq_mem, decide_eq_true_eq, beq_iff_eq] at h
    obtain ⟨h1, h2⟩ := h
    cases ho : ops[d]? with
    | none => rw [ho] at h2; simp at h2
    | some od =>
      rw [ho] at h2
      obtain ⟨v, hv, hp⟩ := hd d h1 od t ho (by simpa using h2)
      exact ⟨v, eval_of hv, hp⟩
theorem StepT.q {fl : List Bool} {al : List Nat} {l0 : List Value} {d0 : List Deferred} {W : World} {PV : Nat → Value → World → Prop} {i : Nat} (o : Oper) (ho : ops[i]? = some o) (hi : al.contains i = false)
    (h : ∀ ρ w, AtT ops fl l0 W PV i ρ w → OpTo P o ρ w (PV i)) : StepT P ops fl al ⟨l0.toArray, d0⟩ W PV i := by
  intro o' ho' a w hB hb hd
  rw [ho] at ho'
  obtain rfl := Option.some.inj ho'
  have hn : ¬ i ∈ al := by simpa using hi
  have h1 := h a.eval w (AtT.of hB hb hd)
  rcases h1 with ⟨v, w', hr, hb', hR⟩ | ⟨f, args, hr, hc⟩
  · exact .inl ⟨v, w', hr, hb', hR, fun h => absurd h hn⟩
  · exact .inr ⟨f, args, hr, hc.mono fun e w' ⟨v, he, hb', hR⟩ => ⟨v, he, hb', hR, fun h => absurd h hn⟩⟩
theorem StepT.a {fl : List Bool} {al : List Nat} {l0 : List Value} {d0 : List Deferred} {W : World} {PV : Nat → Value → World → Prop} {i : Nat} (o : Oper) (ho : ops[i]? = some o)
    (h : ∀ ρ w, AtT ops fl l0 W PV i ρ w → OpTo P o ρ w fun v w' => PV i v w' ∧ v = .pointer (some ⟨w.heap.size, 0, none⟩)) : StepT P ops fl al ⟨l0.toArray, d0⟩ W PV i := by
  intro o' ho' a w hB hb hd
  rw [ho] at ho'
  obtain rfl := Option.some.inj ho'
  have h1 := h a.eval w (AtT.of hB hb hd)
  rcases h1 with ⟨v, w', hr, hb', hR⟩ | ⟨f, args, hr, hc⟩
  · exact .inl ⟨v, w', hr, hb', hR.1, fun _ => hR.2⟩
  · exact .inr ⟨f, args, hr, hc.mono fun e w' ⟨v, he, hb', hR⟩ => ⟨v, he, hb', hR.1, fun _ => hR.2⟩⟩
/-- the frame behind them: dl lists operations and their slots by rising slots -/
def mergeS (vs : Nat → Value) : List Value → Nat → List (Nat × Nat) → List Value
  | [], _, _ => []
  | x :: l, _, [] => x :: l
  | x :: l, t, p :: dl => cond (p.2 == t) (vs p.1 :: mergeS vs l (t + 1) dl) (x :: mergeS vs l (t + 1) (p :: dl))
def risB : Nat → List (Nat × Nat) → Bool
  | _, [] => true
  | t, p :: dl => decide (t ≤ p.2) && risB (p.2 + 1) dl
theorem mergeS_get (vs : Nat → Value) : ∀ (l : List Value) (t : Nat) (dl : List (Nat × Nat)), risB t dl = true → ∀ s, (mergeS vs l t dl)[s]? = match dl.find? (fun p => p.2 == t + s) with | some p => if s < l.length then some (vs p.1) else none | none => l[s]?
  | [], _, dl, _, s => by
    unfold mergeS
    split <;> simp
  | x :: l, t, [], _, s => by simp [mergeS]
  | x :: l, t, p :: dl, h, s => by
    simp only [risB, Bool.and_eq_true, decide_eq_true_eq] at h
    have hno : ∀ {u n} {dl : List (Nat × Nat)}, risB n dl = true → u < n → dl.find? (fun p => p.2 == u) = none := by
      intro u n dl
      induction dl generalizing n with
      | nil => intros; rfl
      | cons q dl ih =>
        intro hr hu
        simp only [risB, Bool.and_eq_true, decide_eq_true_eq] at hr
        rw [List.find?_cons, show (q.2 == u) = false by simp; omega]
        exact ih hr.2 (by omega)
    rw [mergeS]
    by_cases hp : p.2 = t
    · rw [show (p.2 == t) = true by simpa using hp, cond_true]
      cases s with
      | zero => simp [hp]
      | succ s =>
        have ih := mergeS_get vs l (t + 1) dl (by rw [← hp]; exact h.2) s
        rw [List.getElem?_cons_succ, ih, List.find?_cons, show (p.2 == t + (s + 1)) = false by simp; omega, show t + 1 + s = t + (s + 1) by omega]
        simp only [List.length_cons, Nat.add_lt_add_iff_right, List.getElem?_cons_succ]
    · rw [show (p.2 == t) = false by simpa using hp, cond_false]
      cases s with
      | zero =>
        rw [List.getElem?_cons_zero, List.find?_cons, show (p.2 == t + 0) = false by simp; omega, hno h.2 (by omega)]
        simp
      | succ s =>
        have ih := mergeS_get vs l (t + 1) (p :: dl) (by simp only [risB, Bool.and_eq_true, decide_eq_true_eq]; exact ⟨by omega, h.2⟩) s
        rw [List.getElem?_cons_succ, ih, show t + 1 + s = t + (s + 1) by omega]
        simp only [List.length_cons, Nat.add_lt_add_iff_right, List.getElem?_cons_succ]
theorem mergeS_len (vs : Nat → Value) : ∀ (l : List Value) (t : Nat) (dl : List (Nat × Nat)), (mergeS vs l t dl).length = l.length
  | [], t, dl => by simp [mergeS]
  | x :: l, t, [] => by simp [mergeS]
  | x :: l, t, p :: dl => by
    rw [mergeS]
    cases (p.2 == t) with
    | true => simp [mergeS_len vs l (t + 1) dl]
    | false => simp [mergeS_len vs l (t + 1) (p :: dl)]
def permB (dl dl' : List (Nat × Nat)) : Bool := risB 0 dl && dl.all (fun p => dl'.contains p) && dl'.all (fun p => dl.contains p) && decide ((dl'.map (·.2)).Nodup)
theorem risB_nodup : ∀ {n : Nat} {dl : List (Nat × Nat)}, risB n dl = true → (dl.map (·.2)).Nodup ∧ ∀ p ∈ dl, n ≤ p.2
  | _, [], _ => ⟨List.nodup_nil, fun p hp => by cases hp⟩
  | n, q :: dl, h => by
    simp only [risB, Bool.and_eq_true, decide_eq_true_eq] at h
    obtain ⟨h1, h2⟩ := risB_nodup h.2
    refine ⟨?_, fun p hp => ?_⟩
    · rw [List.map_cons, List.nodup_cons]
      refine ⟨fun hm => ?_, h1⟩
      obtain ⟨p, hp, he⟩ := List.mem_map.1 hm
      have := h2 p hp
      omega
    · rcases List.mem_cons.1 hp with rfl | hp
      · exact h.1
      · have := h2 p hp
        omega
theorem find_same {dl dl' : List (Nat × Nat)} (hn : (dl.map (·.2)).Nodup) (h : ∀ p ∈ dl, p ∈ dl') (h' : ∀ p ∈ dl', p ∈ dl) (t : Nat) : dl.find? (fun p => p.2 == t) = dl'.find? (fun p => p.2 == t) := by
  cases hf : dl.find? (fun p => p.2 == t) with
  | none =>
    cases hf' : dl'.find? (fun p => p.2 == t) with
    | none => rfl
    | some q =>
      rw [List.find?_eq_none] at hf
      exact absurd (List.find?_some hf') (hf q (h' q (List.mem_of_find?_eq_some hf')))
  | some p =>
    cases hf' : dl'.find? (fun p => p.2 == t) with
    | none =>
      rw [List.find?_eq_none] at hf'
      exact absurd (List.find?_some hf) (hf' p (h p (List.mem_of_find?_eq_some hf)))
    | some q =>
      have e1 : p.2 = t := by simpa using List.find?_some hf
      have e2 : q.2 = t := by simpa using List.find?_some hf'
      rw [nodup_snd hn (List.mem_of_find?_eq_some hf) (h' q (List.mem_of_find?_eq_some hf')) (e1.trans e2.symm)]
theorem putR_merge {vs : Nat → Value} {l0 : List Value} {d0 : List Deferred} {dl dl' : List (Nat × Nat)} (h : permB dl dl' = true) : putR ⟨l0.toArray, d0⟩ dl' vs = ⟨(mergeS vs l0 0 dl).toArray, d0⟩ := by
  unfold permB at h
  simp only [Bool.and_eq_true, decide_eq_true_eq, List.all_eq_true, List.contains_eq_mem] at h
  obtain ⟨⟨⟨h1, h2⟩, h3⟩, h4⟩ := h
  have hn := (risB_nodup h1).1
  obtain ⟨_, k2, k3⟩ := putR_tmps vs dl' ⟨l0.toArray, d0⟩ 0 h4
  have ht : (putR ⟨l0.toArray, d0⟩ dl' vs).tmps = (mergeS vs l0 0 dl).toArray := by
    apply Array.ext_getElem?
    intro t
    rw [(putR_tmps vs dl' ⟨l0.toArray, d0⟩ t h4).1]
    simp only [List.getElem?_toArray]
    rw [mergeS_get vs l0 0 dl h1, Nat.zero_add, find_same hn h2 h3]
    cases dl'.find? (fun p => p.2 == t) with
    | none => simp
    | some p => simp
  cases hq : putR ⟨l0.toArray, d0⟩ dl' vs
  rw [hq] at ht k3
  simp only at ht k3
  rw [ht, k3]
theorem wpAny_tab {l : List Oper} {a0 : Act} {W : World} (k : Nat) (al : List Nat) (L : List (Value → World → Prop)) (hk : tabR l k a0.tmps.size = true)
    (hal : isPA L al) (hcl : ClosedLs L) (hst : StepsT P l.toArray (flK k (l.length - k)) al a0 W L 0 k)
    (hrest : ∀ (vs : Nat → Value) (w : World), Below W.heap.size W w → DoneT L al k vs w → wpList P l.toArray Q (l.drop k) (putR a0 (dstR l.toArray (flK k (l.length - k))) vs) w) : ∀ W1, Below W.heap.size W W1 → wpAny P .any l.toArray Q l.length (Array.replicate l.length false) a0 W1 := by
  intro W1 hW1
  unfold tabR at hk
  simp only [Bool.and_eq_true, decide_eq_true_eq] at hk
  obtain ⟨⟨⟨⟨hkl, hph⟩, hdk⟩, hgd⟩, hch⟩ := hk
  have hdst : ∀ i, i < k → ∃ d, (i, d) ∈ dstR l.toArray (flK k (l.length - k)) := fun i hi => by
    unfold dstOkR at hdk
    simp only [Bool.and_eq_true, decide_eq_true_eq, List.all_eq_true, List.mem_range] at hdk
    have h1 := hdk.1 i (by simp; omega)
    rw [flK_get.2 hi] at h1
    simp only [Bool.not_true, Bool.false_or] at h1
    cases ho : l.toArray[i]? with
    | none => rw [ho] at h1; cases h1
    | some o =>
      rw [ho] at h1
      cases hd : o.dst with
      | none => simp only [hd] at h1; cases h1
      | some d => exact ⟨d, mem_dstR.2 ⟨flK_get.2 hi, o, ho, hd⟩⟩
  refine wpAny_table (fl := flK k (l.length - k)) (al := al) (a0 := a0) (W := W) (PV := pvL L) hph hdk (fun i o hi ho => ?_) (isPA.get hal) (ClosedLs.get hcl) (fun i hi => hst.get (Nat.zero_le _) (by have := flK_get.1 hi; omega)) (fun vs w hb hp hs => ?_) _ _ _ _ ?_ (by simp)
  · have h1 := flK_get.1 hi
    have h2 := List.all_eq_true.1 hgd o (List.mem_of_getElem? (i := i) (by rw [List.getElem?_take_of_lt h1]; simpa using ho))
    simpa using h2
  · refine wpAny_chain (List.range' k (l.length - k)) _ _ _ _ hch (by rw [flK_count]; simp) ?_
    have e := wpOps_eq_wpList (P := P) (ops := l.toArray) (Q := Q) (l.drop k) k (fun j => by simp)
    rw [List.length_drop] at e
    rw [e]
    refine hrest vs w hb ⟨fun i hi => ?_, fun i j hi hj hij hia hja => ?_⟩
    · obtain ⟨d, hd⟩ := hdst i hi
      exact hp _ hd
    · obtain ⟨d, hd⟩ := hdst i hi
      obtain ⟨e, he⟩ := hdst j hj
      exact hs _ hd _ he hij hia hja
  · exact ⟨by simp, fun i hi => (repl_no hi).elim, fun i hi => (repl_no hi).elim, fun i _ _ hi => (repl_no hi).elim, fun _ _ => rfl, rfl, rfl, hW1, fun i _ _ _ _ _ _ _ _ hi => (repl_no hi).elim⟩
theorem wp_region_tab0 {id : Nat} {l : List Oper} {a0 : Act} {W : World} (k : Nat) (al : List Nat) (L : List (Value → World → Prop)) (hm : P.follows .mixedOrders = true) (hk : tabR l k a0.tmps.size = true)
    (hal : isPA L al) (hcl : ClosedLs L) (hst : StepsT P l.toArray (flK k (l.length - k)) al a0 W L 0 k)
    (hrest : ∀ (vs : Nat → Value) (w : World), Below W.heap.size W w → DoneT L al k vs w → wpList P l.toArray Q (l.drop k) (putR a0 (dstR l.toArray (flK k (l.length - k))) vs) w) : (Code.region id l.toArray true).wp P Q a0 W := by
  refine wp_region_any hm ?_
  have := wpAny_tab (P := P) (Q := Q) k al L hk hal hcl hst hrest W.drew (Below.refl _ _).drew
  simpa using this
theorem wp_region_tab {id : Nat} {l : List Oper} {l0 : List Value} {d0 : List Deferred} {W : World} (k : Nat) (al : List Nat) (dl : List (Nat × Nat)) (L : List (Value → World → Prop)) (hm : P.follows .mixedOrders = true) (hk : tabR l k l0.length = true) (hp : permB dl (dstR l.toArray (flK k (l.length - k))) = true)
    (hal : isPA L al) (hcl : ClosedLs L) (hst : StepsT P l.toArray (flK k (l.length - k)) al ⟨l0.toArray, d0⟩ W L 0 k)
    (hrest : ∀ (vs : Nat → Value) (w : World), Below W.heap.size W w → DoneT L al k vs w → wpList P l.toArray Q (l.drop k) ⟨(mergeS vs l0 0 dl).toArray, d0⟩ w) : (Code.region id l.toArray true).wp P Q ⟨l0.toArray, d0⟩ W :=
  wp_region_tab0 k al L hm (by simpa using hk) hal hcl hst fun vs w hb hd => by
    rw [putR_merge hp]
    exact hrest vs w hb hd
/-- the text's order is one of them -/
def textB (ops : Array Oper) : Bool := (List.range ops.size).all fun i => (Region.ready .any ops (flK i (ops.size - i)).toArray).contains i
theorem flK_set {k m : Nat} : (flK k (m + 1)).toArray.setIfInBounds k true = (flK (k + 1) m).toArray := by
  unfold flK
  simp only [List.setIfInBounds_toArray]
  congr 1
  rw [List.set_append, if_neg (by simp)]
  rw [List.length_replicate, Nat.sub_self, List.replicate_succ, List.set_cons_zero, List.replicate_succ', List.append_assoc]
  rfl
theorem wpAny_text (ht : textB ops = true) : ∀ (m k : Nat) (a : Act) (w : World), k + m = ops.size → wpAny P .any ops Q m (flK k m).toArray a w → wpOps P ops Q (List.range' k m) a w
  | 0, _, _, _, _, h => h.2
  | m + 1, k, a, w, hk, h => by
    rw [List.range'_succ, wpOps_cons]
    have h1 := List.all_eq_true.1 ht k (List.mem_range.2 (by omega))
    rw [show ops.size - k = m + 1 by omega, List.contains_eq_mem, decide_eq_true_eq] at h1
    refine wpOp_mono (fun a w h2 => wpAny_text ht m (k + 1) a w (by omega) ?_) (h.2 k h1)
    rw [flK_set] at h2
    exact h2
theorem wp_region_tabF {id : Nat} {l : List Oper} {l0 : List Value} {d0 : List Deferred} {W : World} (k : Nat) (al : List Nat) (dl : List (Nat × Nat)) (L : List (Value → World → Prop)) (ht : textB l.toArray = true) (hk : tabR l k l0.length = true) (hp : permB dl (dstR l.toArray (flK k (l.length - k))) = true)
    (hal : isPA L al) (hcl : ClosedLs L) (hst : StepsT P l.toArray (flK k (l.length - k)) al ⟨l0.toArray, d0⟩ W L 0 k)
    (hrest : ∀ (vs : Nat → Value) (w : World), Below W.heap.size W w → DoneT L al k vs w → wpList P l.toArray Q (l.drop k) ⟨(mergeS vs l0 0 dl).toArray, d0⟩ w) : (Code.region id l.toArray false).wp P Q ⟨l0.toArray, d0⟩ W := by
  refine wp_region ?_
  have h := wpAny_tab (a0 := ⟨l0.toArray, d0⟩) k al L (by simpa using hk) hal hcl hst (fun vs w hb hd => by
    rw [putR_merge hp]
    exact hrest vs w hb hd) W (Below.refl _ _)
  have h2 := wpAny_text ht l.length 0 _ _ (by simp) (by simpa [flK] using h)
  rw [List.range_eq_range']
  simpa using h2
end
end Go.Proofs.YtgjdgcmmlfmhmaaGreatDoor

/- DwT -/
namespace Go.Proofs.YtgjdgcmmlfmhmaaGreatDoor
open Go.RowKit

theorem Tryz.infoW : (Tryz.prog.info? 37).map (fun i => (i.zero, i.size, i.bytes)) = some (some (.agg #[.bool false, .slice none 0 0]), 2, 32) := by kernel_rfl
def cellsV : List (Bool × Value) → List Value
  | [] => []
  | p :: L => .bool p.1 :: p.2 :: cellsV L
theorem cellsV_append : ∀ (L M : List (Bool × Value)), cellsV (L ++ M) = cellsV L ++ cellsV M
  | [], M => rfl
  | p :: L, M => by simp [cellsV, cellsV_append L M]
theorem cellsV_length : ∀ (L : List (Bool × Value)), (cellsV L).length = L.length * 2
  | [] => rfl
  | p :: L => by simp only [cellsV, List.length_cons, cellsV_length L]; omega
theorem cellsV_get : ∀ (L : List (Bool × Value)) (i : Nat) (h : i < L.length), (cellsV L)[i * 2]? = some (.bool L[i].1) ∧ (cellsV L)[i * 2 + 1]? = some L[i].2
  | [], i, h => by simp at h
  | p :: L, 0, _ => by simp [cellsV]
  | p :: L, i + 1, h => by
    have := cellsV_get L i (by simpa using h)
    rw [show (i + 1) * 2 = i * 2 + 2 by omega]
    simpa [cellsV] using this
/-- a row of wholes whose cells are L -/
def OwnsV (w : World) (base : Nat) (v : Value) (L : List (Bool × Value)) : Prop := w.ownsRow base 37 2 v L.length (cellsV L)
/-- what the cells say -/
def WhL (w : World) (b : Nat) (L : List (Bool × Value)) (Ns : List Int) : Prop := L.length = Ns.length ∧ ∀ i (h : i < L.length) (h' : i < Ns.length), L[i].1 = decide (Ns[i] < 0) ∧ RdO w b L[i].2 (dg Ns[i].natAbs)
/-- a row of wholes that reads as Ns -/
def OwnsW (w : World) (base b : Nat) (v : Value) (Ns : List Int) : Prop := ∃ L, OwnsV w base v L ∧ WhL w b L Ns
theorem OwnsV.below {w w1 : World} {base : Nat} {v : Value} {L : List (Bool × Value)} (h : OwnsV w base v L) (hb : Below w.heap.size w w1) : OwnsV w1 base v L := by
  refine ⟨h.1, ?_⟩
  rcases h.2 with h0 | ⟨g, cap, cur, hv, hg, hh, r⟩
  · exact .inl h0
  · exact .inr ⟨g, cap, cur, hv, hg, (hb.block g (Array.getElem?_eq_some_iff.1 hh).1).trans hh, r⟩
theorem OwnsV.lt {w : World} {base : Nat} {v : Value} {L : List (Bool × Value)} (h : OwnsV w base v L) : ∀ g, v.ownBlock = some g → base ≤ g ∧ g < w.heap.size := World.ownsRow.lt h
theorem RdO.below {w w1 : World} {base : Nat} {v : Value} {L : List Int} (h : RdO w base v L) (hb : Below w.heap.size w w1) : RdO w1 base v L := ⟨h.1.below hb, fun hn => (h.2 hn).below hb⟩
theorem WhL.below {w w1 : World} {b : Nat} {L : List (Bool × Value)} {Ns : List Int} (h : WhL w b L Ns) (hb : Below w.heap.size w w1) : WhL w1 b L Ns := ⟨h.1, fun i h1 h2 => ⟨(h.2 i h1 h2).1, (h.2 i h1 h2).2.below hb⟩⟩
theorem OwnsW.below {w w1 : World} {base b : Nat} {v : Value} {Ns : List Int} (h : OwnsW w base b v Ns) (hb : Below w.heap.size w w1) : OwnsW w1 base b v Ns := by
  obtain ⟨L, h1, h2⟩ := h
  exact ⟨L, h1.below hb, h2.below hb⟩
theorem OwnsW.closed (base b : Nat) (v : Value) (Ns : List Int) : Closed (fun w => OwnsW w base b v Ns) := fun _ _ h hb => h.below hb
/-- over a block of wholes the lists stay -/
theorem RdO.far {w w1 : World} {b g : Nat} {v : Value} {L : List Int} {cs : Array Value} {T : TypeId} {x : Nat × Nat} (h : RdO w b v L) (hT : T ≠ 3) (hg : w.heap[g]? = some (.cells cs T x)) (ho : Over [g] w w1) : RdO w1 b v L := by
  by_cases hn : L = []
  · subst hn
    obtain ⟨a, cap, h1, h2, _⟩ := h.1
    exact ⟨⟨a, cap, h1, h2, fun i hi => by simp at hi⟩, fun h => absurd rfl h⟩
  · have hw := h.2 hn
    have h3 := OwnsI.over hw ho (fun g' hg' hm => by
      rw [List.mem_singleton] at hm
      subst hm
      rcases hw.2 with ⟨_, h0⟩ | ⟨g2, cap2, cur2, hv2, _, hh2, _⟩
      · exact hn (List.length_eq_zero_iff.1 h0)
      · rw [hv2] at hg'
        have : g2 = g' := by simpa [Value.ownBlock] using hg'
        subst this
        rw [hg] at hh2
        injection hh2 with e
        injection e with _ e2 _
        exact hT e2)
    exact ⟨h3.rdL, fun _ => h3⟩
/-- what is appended lies behind what was there -/
theorem wpList_appQ {ops : Array Oper} {rest : List Oper} {o : Oper} {a : Act} {Q : Exit → Act → World → Prop} {wr : World} (hgd : o.guard = none) (s x : Operand)
    (ho : o.op = .call { callee := .builtin .append, args := #[s, x], argTypes := #[90, 90] })
    (base : Nat) (v : Value) (L M : List (Bool × Value)) (hs : a.eval s = v) (hown : OwnsV wr base v L) (ad : Addr) (cap : Nat) (hx : a.eval x = .slice (some ad) M.length cap)
    (hc : ∀ j u, (cellsV M)[j]? = some u → wr.cell? (ad.add j) = some u) (h1 : ∀ u ∈ cellsV M, u.oneCell' = true) (hlen : L.length + M.length < 1000000000000) (hbase : base ≤ wr.heap.size)
    (h : ∀ v' w1, OwnsV w1 base v' (L ++ M) → wr.grownBy w1 v.ownBlock → wpList Tryz.prog ops Q rest (a.put o.dst v') w1) :
    wpList Tryz.prog ops Q (o :: rest) a wr := by
  obtain ⟨i0, hi, hz0, hz1, hz2⟩ := info_parts Tryz.infoW
  refine wpList_append_own _ hgd s x 90 ho base 37 i0 (.agg #[.bool false, .slice none 0 0]) 2 32 Tryz.underlying90 hi hz0 hz1 hz2 rfl (by decide) v L.length (cellsV L) hs hown ad M.length cap (cellsV M) hx (cellsV_length M) hc h1 (by unfold maxLen; omega) (by omega) hbase fun v' w1 hown' hgrow _ => h v' w1 ?_ hgrow
  show w1.ownsRow _ _ _ _ _ _
  rw [List.length_append, cellsV_append]
  exact hown'
theorem OwnsV.form {w : World} {base : Nat} {v : Value} {L : List (Bool × Value)} (h : OwnsV w base v L) :
    ∃ (a : Option Addr) (cap : Nat), v = .slice a L.length cap ∧ L.length ≤ cap ∧ ∀ i (_ : i < L.length), ∃ g, a = some ⟨g, 0, none⟩ ∧ w.cell? ⟨g, i * 2, none⟩ = some (.bool L[i].1) ∧ w.cell? ⟨g, i * 2 + 1, none⟩ = some L[i].2 ∧
      (∀ o, w.frozen? ⟨g, o, none⟩ = false) ∧ g < w.heap.size ∧ base ≤ g := by
  rcases h.2 with ⟨hv, hn⟩ | ⟨g, cap, cur, hv, hg, hh, hnc, hcm, hcs, ht⟩
  · exact ⟨none, 0, by rw [hv, hn], by omega, fun i hi => by omega⟩
  · refine ⟨some ⟨g, 0, none⟩, cap, hv, hnc, fun i hi => ⟨g, rfl, ?_, ?_, ?_, (Array.getElem?_eq_some_iff.1 hh).1, hg⟩⟩
    · have h4 : (cur.toList.take (L.length * 2))[i * 2]? = cur.toList[i * 2]? := List.getElem?_take_of_lt (by omega)
      rw [ht, (cellsV_get L i hi).1] at h4
      rw [Array.getElem?_toList] at h4
      show (match w.heap[g]? with | some (.cells cs _ _) => _ | _ => _) = _
      rw [hh]; exact h4.symm
    · have h4 : (cur.toList.take (L.length * 2))[i * 2 + 1]? = cur.toList[i * 2 + 1]? := List.getElem?_take_of_lt (by omega)
      rw [ht, (cellsV_get L i hi).2] at h4
      rw [Array.getElem?_toList] at h4
      show (match w.heap[g]? with | some (.cells cs _ _) => _ | _ => _) = _
      rw [hh]; exact h4.symm
    · intro o
      simp [World.frozen?, hh]
theorem OwnsV.rds {w : World} {base : Nat} {v : Value} {L : List (Bool × Value)} {Ns : List Int} (h1 : OwnsV w base v L) (hl : L.length = Ns.length) (h2 : ∀ i (h : i < L.length) (h' : i < Ns.length), L[i].1 = decide (Ns[i] < 0) ∧ RdL w L[i].2 (dg Ns[i].natAbs)) : RdWs w v Ns := by
  obtain ⟨a, cap, hv, _, hc⟩ := h1.form
  refine ⟨a, cap, by rw [hv, hl], fun i hi => ?_⟩
  obtain ⟨g, ha, q1, q2, _, hg, _⟩ := hc i (by omega)
  obtain ⟨e1, e2⟩ := h2 i (by omega) hi
  refine ⟨g, 0, L[i].2, ha, ?_, ?_, e2, hg⟩
  · rw [Nat.zero_add, q1, e1]
  · rw [Nat.zero_add, q2]
theorem OwnsW.rds {w : World} {base b : Nat} {v : Value} {Ns : List Int} (h : OwnsW w base b v Ns) : RdWs w v Ns := by
  obtain ⟨L, h1, hl, h2⟩ := h
  exact h1.rds hl fun i a b => ⟨(h2 i a b).1, (h2 i a b).2.1⟩
/-- a block of wholes just made -/
theorem OwnsV.new (w : World) (base : Nat) (L : List (Bool × Value)) (hb : base ≤ w.heap.size) (hl : L.length ≤ 1000) (hL : L ≠ []) : OwnsV (w.alloc (.cells (cellsV L).toArray 37)) base (.slice (some ⟨w.heap.size, 0, none⟩) L.length L.length) L := by
  have := List.length_pos_iff.2 hL
  refine ⟨by rw [cellsV_length], .inr ⟨w.heap.size, L.length, _, rfl, hb, Blk.new w _ _, Nat.le_refl _, by unfold maxLen; omega, by simp [cellsV_length], ?_⟩⟩
  exact List.take_of_length_le (by simp [cellsV_length])
theorem Wh.cell {b : Nat} {N : Int} {v : Value} {w : World} (h : Wh b N v w) : ∃ lv, v = .agg #[.bool (decide (N < 0)), lv] ∧ RdO w b lv (dg N.natAbs) ∧ lv.oneCell' = true := by
  obtain ⟨lv, h1, h2⟩ := h
  obtain ⟨a, cap, h3, _⟩ := id h2.1
  exact ⟨lv, h1, h2, by rw [h3]; rfl⟩
theorem RdWs.below {w w1 : World} {v : Value} {Ns : List Int} (h : RdWs w v Ns) (hb : Below w.heap.size w w1) : RdWs w1 v Ns := by
  obtain ⟨a, cap, hv, hc⟩ := h
  refine ⟨a, cap, hv, fun i hi => ?_⟩
  obtain ⟨g, o, lv, ha, q1, q2, q3, q4⟩ := hc i hi
  exact ⟨g, o, lv, ha, (hb.cell (p := ⟨g, o + i * 2, none⟩) q4).trans q1, (hb.cell (p := ⟨g, o + i * 2 + 1, none⟩) q4).trans q2, q3.below hb, Nat.lt_of_lt_of_le q4 hb.size⟩
theorem RdWs.one {w : World} {v : Value} {Ns : List Int} (h : RdWs w v Ns) (hn : Ns ≠ []) : ∃ (M : List (Bool × Value)) (ad : Addr) (cap : Nat), v = .slice (some ad) M.length cap ∧ M.length = Ns.length ∧ ad.block < w.heap.size ∧ (∀ j u, (cellsV M)[j]? = some u → w.cell? (ad.add j) = some u) ∧ (∀ u ∈ cellsV M, u.oneCell' = true) ∧
    ∀ i (h : i < M.length) (h' : i < Ns.length), M[i].1 = decide (Ns[i] < 0) ∧ RdL w M[i].2 (dg Ns[i].natAbs) := by
  obtain ⟨a, cap, hv, hc⟩ := h
  obtain ⟨g, o, _, ha, _⟩ := hc 0 (List.length_pos_iff.2 hn)
  subst ha
  have hc2 : ∀ i (h : i < Ns.length), ∃ lv, w.cell? ⟨g, o + i * 2, none⟩ = some (.bool (decide (Ns[i] < 0))) ∧ w.cell? ⟨g, o + i * 2 + 1, none⟩ = some lv ∧ RdL w lv (dg Ns[i].natAbs) ∧ g < w.heap.size := fun i hi => by
    obtain ⟨g', o', lv, e, q1, q2, q3, q4⟩ := hc i hi
    injection e with e
    injection e with e1 e2
    subst e1 e2
    exact ⟨lv, q1, q2, q3, q4⟩
  clear hc
  have hM : ∀ (Ns : List Int) (o : Nat), (∀ i (h : i < Ns.length), ∃ lv, w.cell? ⟨g, o + i * 2, none⟩ = some (.bool (decide (Ns[i] < 0))) ∧ w.cell? ⟨g, o + i * 2 + 1, none⟩ = some lv ∧ RdL w lv (dg Ns[i].natAbs) ∧ g < w.heap.size) →
      ∃ M : List (Bool × Value), M.length = Ns.length ∧ (∀ j u, (cellsV M)[j]? = some u → w.cell? ⟨g, o + j, none⟩ = some u) ∧ (∀ u ∈ cellsV M, u.oneCell' = true) ∧ ∀ i (h : i < M.length) (h' : i < Ns.length), M[i].1 = decide (Ns[i] < 0) ∧ RdL w M[i].2 (dg Ns[i].natAbs) := by
    intro Ns
    induction Ns with
    | nil => intro o _; exact ⟨[], rfl, fun j u h => by simp [cellsV] at h, fun u h => by simp [cellsV] at h, fun i h => by simp at h⟩
    | cons N Ns ih =>
      intro o hc
      obtain ⟨lv, q1, q2, q3, q4⟩ := hc 0 (by simp)
      obtain ⟨M, m1, m2, m3, m4⟩ := ih (o + 2) (fun i hi => by
        have := hc (i + 1) (by simpa using hi)
        rw [show o + (i + 1) * 2 = o + 2 + i * 2 by omega] at this
        simpa using this)
      have hlv : lv.oneCell' = true := by
        obtain ⟨a, cap, h, _⟩ := q3
        rw [h]; rfl
      refine ⟨(decide (N < 0), lv) :: M, by simp [m1], fun j u h => ?_, fun u h => ?_, fun i h h' => ?_⟩
      · match j, h with
        | 0, h => simp [cellsV] at h; subst h; simpa using q1
        | 1, h => simp [cellsV] at h; subst h; simpa using q2
        | j + 2, h =>
          have := m2 j u (by simpa [cellsV] using h)
          rw [show o + (j + 2) = o + 2 + j by omega]
          exact this
      · simp only [cellsV, List.mem_cons] at h
        rcases h with rfl | rfl | h
        · rfl
        · exact hlv
        · exact m3 u h
      · cases i with
        | zero => exact ⟨rfl, q3⟩
        | succ i => exact m4 i (by simpa using h) (by simpa using h')
  obtain ⟨M, m1, m2, m3, m4⟩ := hM Ns o hc2
  obtain ⟨_, _, _, _, hg⟩ := hc2 0 (List.length_pos_iff.2 hn)
  refine ⟨M, ⟨g, o, none⟩, cap, by rw [hv, m1], m1, hg, fun j u h => ?_, m3, m4⟩
  have e : (⟨g, o, none⟩ : Addr).add j = ⟨g, o + j, none⟩ := by cases j <;> simp [Addr.add]
  rw [e]
  exact m2 j u h
/-! products of few factors -/
theorem pr_sz {n : Nat} : ∀ (Ns : List Int), (∀ x ∈ Ns, Sz n x) → Sz (n * Ns.length + 1) (pr Ns)
  | [], _ => by rw [pr]; exact (Sz.of1 (by omega) (by omega)).mono (by omega)
  | x :: Ns, h => by
    have := pr_sz Ns fun y hy => h y (by simp [hy])
    have := (h x (by simp)).mul this
    rw [pr]
    exact this.mono (by rw [List.length_cons, Nat.mul_add]; omega)
theorem pr_len {s : Nat} {Ns : List Int} (hl : s * Ns.length + 1 ≤ 40000) (h : ∀ x ∈ Ns, Sz s x) : ∀ k, k ≤ Ns.length → (dg (pr (Ns.take k)).natAbs).length ≤ 40000 := fun k hk => by
  have h1 := (pr_sz (Ns.take k) fun x hx => h x (List.mem_of_mem_take hx)).len
  have h2 : (Ns.take k).length ≤ Ns.length := by simp; omega
  have h3 := Nat.mul_le_mul_left s h2
  omega
theorem sm_sz {n : Nat} : ∀ (Ns : List Int), (∀ x ∈ Ns, Sz n x) → Sz (n + Ns.length) (sm Ns)
  | [], _ => by rw [sm]; show (0 : Int).natAbs < _; exact Nat.pow_pos (by omega)
  | x :: Ns, h => by
    have h1 := sm_sz Ns fun y hy => h y (by simp [hy])
    rw [sm]
    exact (((h x (by simp)).mono (by omega)).add h1).mono (by simp only [List.length_cons]; omega)
theorem sm_len {Ns : List Int} (hl : Ns.length ≤ 10) (h : ∀ x ∈ Ns, Sz 40000 x) : ∀ k, k ≤ Ns.length → (dg (sm (Ns.take k)).natAbs).length ≤ 100000 := fun k hk => by
  have h1 := (sm_sz (Ns.take k) fun x hx => h x (List.mem_of_mem_take hx)).len
  have h2 : (Ns.take k).length ≤ 10 := by simp; omega
  omega
end Go.Proofs.YtgjdgcmmlfmhmaaGreatDoor

/- DwC -/
namespace Go.Proofs.YtgjdgcmmlfmhmaaGreatDoor
open Go.RowKit

set_option maxHeartbeats 2000000 in
set_option maxRecDepth 20000 in
theorem c_timesS (s : Nat) (k : Int) (Ns : List Int) (v : Value) (hk : -10000 < k ∧ k < 10000) (hne : Ns ≠ []) (hl : Ns.length ≤ 8) (hs : 1 ≤ s ∧ s ≤ 40000 ∧ s * (Ns.length + 1) + 1 ≤ 40000) (hN : ∀ x ∈ Ns, Sz s x) (w : World) (hv : RdWs w v Ns) :
    Calls Tryz.prog 78 #[.int .i64 k, v] w (WhP (k * pr Ns) w) := by
  have hkS : Sz s k := (Sz.of1 hk.1 hk.2).mono (by omega)
  have HP : Hid (∀ i, i ≤ (k :: Ns).length → (dg (pr ((k :: Ns).take i)).natAbs).length ≤ 40000) := pr_len (s := s) hs.2.2 fun x hx => by
    rcases List.mem_cons.1 hx with rfl | hx
    · exact hkS
    · exact hN x hx
  have HS : Hid (∀ i (h : i < (k :: Ns).length), (dg ((k :: Ns)[i]).natAbs).length ≤ 40000) := fun i h => by
    have : Sz s ((k :: Ns)[i]) := by
      rcases List.mem_cons.1 (List.getElem_mem h) with e | hx
      · rw [e]; exact hkS
      · exact hN _ hx
    exact Nat.le_trans this.len hs.2.1
  have hl1 : (k :: Ns).length ≤ 1000 := by simp; omega
  have hpr : Hid (pr (k :: Ns) = k * pr Ns) := rfl
  have HV := Lib.hid hv
  obtain ⟨M, ad, cap, rfl, hMl, _⟩ := hv.one hne
  have hMl8 : M.length ≤ 8 := by omega
  have HNE := Lib.hid hne
  have hk2 : -1000000000000000000 ≤ k ∧ k ≤ 1000000000000000000 := by omega
  clear hkS hN hv hne hk hs
  have kS := Blk.new w #[.bool false, .slice none 0 0] 37
  have hb0 : Below w.heap.size w (w.alloc (.cells #[.bool false, .slice none 0 0] 37)) := (Below.refl _ _).alloc (Nat.le_refl _) _
  have hW0 : (w.alloc (.cells #[.bool false, .slice none 0 0] 37)).heap.size = w.heap.size + 1 := by simp
  go_enter Tryz.func78, Tryz.ntmps78
  go_upto_region 1 with (fail)
  generalize w.alloc _ = W0 at *
  go_wp2_with fail
  refine (c_wholeOf k hk2 W0).mono ?_
  rintro e w1 ⟨v, rfl, hwh, hb1⟩
  obtain ⟨lk, rfl, hok, hlk⟩ := hwh.cell
  generalize hsk : decide (k < 0) = sk at *
  have HSK := Lib.hid hsk
  clear hsk
  have hw1 := hb1.size
  have hbW1 : Below w.heap.size w w1 := below_step hb1 (by omega) hb0
  have kS1 := kS.next hb1
  have HOK := Lib.hid hok
  have hRd : RdWs w1 (.slice (some ad) M.length cap) Ns := RdWs.below HV.out hbW1
  clear hok hwh kS hb0 hb1
  obtain ⟨M', ad', cap', hv', hMl', hadb, hc, h1c, hM'⟩ := hRd.one HNE.out
  injection hv' with e1 e2 e3
  injection e1 with e1
  subst e1 e3
  have HC := Lib.hid hc
  have H1C := Lib.hid h1c
  have HM := Lib.hid hM'
  have hMl9 : M'.length ≤ 8 := by omega
  have HML := Lib.hid hMl'
  rw [e2]
  clear hc h1c hM' hRd HV hMl hMl' e2 hMl8
  have hown : OwnsV (w1.alloc (.cells #[.bool sk, lk] 37)) w1.heap.size (.slice (some ⟨w1.heap.size, 0, none⟩) 1 1) [(sk, lk)] := OwnsV.new w1 w1.heap.size [(sk, lk)] (Nat.le_refl _) (by simp) (by simp)
  have hcw : ∀ j u, (cellsV M')[j]? = some u → (w1.alloc (.cells #[.bool sk, lk] 37)).cell? (ad.add j) = some u := fun j u h => (((Below.refl w1.heap.size w1).alloc (Nat.le_refl _) _).cell (p := ad.add j) (by cases j <;> simpa [Addr.add] using hadb)).trans (HC.out j u h)
  have hszw : w1.heap.size ≤ (w1.alloc (.cells #[.bool sk, lk] 37)).heap.size := by simp
  go_wp2_with (at_builtin; refine wpList_appQ rfl _ _ rfl w1.heap.size (.slice (some ⟨w1.heap.size, 0, none⟩) 1 1) [(sk, lk)] M' rfl hown ad cap rfl hcw H1C.out (by simp; omega) hszw ?_; intro v' w2 ho2 hg2)
  have hb2 : Below w1.heap.size w1 w2 := ((Below.refl w1.heap.size w1).alloc (Nat.le_refl _) _).grown hg2 (by simp) (fun k hk => by
    have h5 : w1.heap.size = k := by simpa [Value.ownBlock] using hk
    omega)
  have hb3 : Below w.heap.size w w2 := below_step hb2 hbW1.size hbW1
  have kS2 := kS1.next hb2
  have hrd : Hid (RdWs w2 v' (k :: Ns)) := ho2.rds (by simp only [List.length_append, List.length_cons, List.length_nil, HML.out]; omega) fun i h h' => by
    cases i with
    | zero => exact ⟨HSK.out.symm, HOK.out.1.below hb2⟩
    | succ i =>
      have h3 : i < M'.length := by
        have h4 := h
        simp only [List.length_append, List.length_cons, List.length_nil] at h4
        omega
      obtain ⟨m1, m2⟩ := HM.out i h3 (by simpa using h')
      exact ⟨m1, m2.below hb2⟩
  clear ho2 hg2 hown hcw hszw kS1 hbW1 hw1 hb2
  go_wp2_with fail
  refine (c_productWholes (k :: Ns) v' hl1 HS.out HP.out w2 hrd.out).mono ?_
  rintro e w3 ⟨v, rfl, hwh, hb4⟩
  obtain ⟨lv, rfl, ho9⟩ := hwh
  obtain ⟨s9, c9, rfl, _⟩ := id ho9.1
  have kS3 := kS2.next hb4
  have hb5 : Below w.heap.size w w3 := below_step hb4 hb3.size hb3
  rw [hpr.out] at ho9 ⊢
  generalize hK : k * pr Ns = K at *
  clear hK hpr
  have k9 := (kS3.set 0 (.bool (decide (K < 0)))).set 1 (.slice s9 (dg K.natAbs).length c9)
  have hlt9 : w.heap.size < w2.heap.size := kS2.lt
  have z0 := kS3.frozen 0
  have z1 := kS3.frozen 1
  have x0 : w3.cell? ⟨w.heap.size, 0, none⟩ = some (.bool false) := kS3.cell 0
  have x1 : w3.cell? ⟨w.heap.size, 1, none⟩ = some (.slice none 0 0) := kS3.cell 1
  have hB9 : Below w.heap.size w ((w3.setCell ⟨w.heap.size, 0, none⟩ (.bool (decide (K < 0)))).setCell ⟨w.heap.size, 1, none⟩ (.slice s9 (dg K.natAbs).length c9)) := (hb5.setCell (Nat.le_refl _) _).setCell (Nat.le_refl _) _
  have ho8 := (ho9.set2 (S := w.heap.size) hlt9 (.bool (decide (K < 0))) (.slice s9 (dg K.natAbs).length c9)).le (base' := w.heap.size) (by omega)
  clear ho9 kS2 kS3 hb3 hb4 hb5
  go_wp2
  generalize (World.setCell (World.setCell _ _ _) _ _) = w9 at hB9 k9 ho8 ⊢
  have q0 : w9.cell? ⟨w.heap.size, 0, none⟩ = some (.bool (decide (K < 0))) := k9.cell 0
  have q1 : w9.cell? ⟨w.heap.size, 1, none⟩ = some (.slice s9 (dg K.natAbs).length c9) := k9.cell 1
  refine bodyPost_ret (v := .agg #[.bool (decide (K < 0)), .slice s9 (dg K.natAbs).length c9]) (by simp [results, Tryz.results78, go_sem, q0, q1]) rfl ?_
  exact ⟨_, rfl, ⟨_, rfl, ho8⟩, hB9⟩
theorem c_timesW (k : Int) (Ns : List Int) (v : Value) (hk : -10000 < k ∧ k < 10000) (hne : Ns ≠ []) (hl : Ns.length ≤ 8) (hN : ∀ x ∈ Ns, Sz 3000 x) (w : World) (hv : RdWs w v Ns) :
    Calls Tryz.prog 78 #[.int .i64 k, v] w (WhP (k * pr Ns) w) := c_timesS 3000 k Ns v hk hne hl (by omega) hN w hv
end Go.Proofs.YtgjdgcmmlfmhmaaGreatDoor

/- DwB -/
namespace Go.Proofs.YtgjdgcmmlfmhmaaGreatDoor
open Go.RowKit

/-- a value known -/
def IsV (c : Value) : Value → World → Prop := fun v _ => v = c
theorem IsV.closed (c v : Value) : Closed (IsV c v) := fun _ _ h _ => h
def IsWs (Ns : List Int) : Value → World → Prop := fun v w => RdWs w v Ns
theorem IsWs.closed (Ns : List Int) (v : Value) : Closed (IsWs Ns v) := fun _ _ h hb => RdWs.below h hb
/-- a variable that holds a whole -/
def BlkW (b r : Nat) (N : Int) (w : World) : Prop := ∃ lv, Blk r #[.bool (decide (N < 0)), lv] 37 w ∧ RdO w b lv (dg N.natAbs) ∧ lv.oneCell' = true
theorem BlkW.closed (b r : Nat) (N : Int) : Closed (BlkW b r N) := fun _ _ ⟨lv, h1, h2, h3⟩ hb => ⟨lv, h1.next hb, h2.below hb, h3⟩
theorem BlkW.next {b r : Nat} {N : Int} {w w' : World} (h : BlkW b r N w) (hb : Below w.heap.size w w') : BlkW b r N w' := BlkW.closed b r N _ _ h hb
theorem BlkW.lt {b r : Nat} {N : Int} {w : World} (h : BlkW b r N w) : r < w.heap.size := by
  obtain ⟨lv, h1, _⟩ := h
  exact h1.lt
theorem over_set2 (w : World) (r : Nat) (x y : Value) : Over [r] w ((w.setCell ⟨r, 0, none⟩ x).setCell ⟨r, 1, none⟩ y) := ((Over.refl [r] w).setCell (p := ⟨r, 0, none⟩) (.inr (by simp)) x).setCell (p := ⟨r, 1, none⟩) (.inr (by simp)) y
/-- a whole that is stored -/
theorem BlkW.put {b r : Nat} {cs : Array Value} {w : World} {M : Int} {lv : Value} (hk : Blk r cs 37 w) (hc : cs.size = 2) (hv : RdO w b lv (dg M.natAbs)) (h1 : lv.oneCell' = true) : BlkW b r M ((w.setCell ⟨r, 0, none⟩ (.bool (decide (M < 0)))).setCell ⟨r, 1, none⟩ lv) := by
  have k9 := (hk.set 0 (.bool (decide (M < 0)))).set 1 lv
  refine ⟨lv, ?_, hv.far (by decide) hk (over_set2 w r _ _), h1⟩
  match cs, hc with
  | ⟨[x, y]⟩, _ => simpa using k9
theorem BlkW.far {b r r' : Nat} {N : Int} {w : World} {cs : Array Value} (h : BlkW b r N w) (hne : r ≠ r') (hk : Blk r' cs 37 w) (x y : Value) : BlkW b r N ((w.setCell ⟨r', 0, none⟩ x).setCell ⟨r', 1, none⟩ y) := by
  obtain ⟨lv, h1, h2, h3⟩ := h
  exact ⟨lv, (h1.far (p := ⟨r', 0, none⟩) hne x).far (p := ⟨r', 1, none⟩) hne y, h2.far (by decide) hk (over_set2 w r' x y), h3⟩
theorem op_ldW {o : Oper} {ρ : Operand → Value} {w : World} {b r : Nat} {N : Int} (x : Operand) (ho : o.op = .load 37 x) (hx : ρ x = .pointer (some ⟨r, 0, none⟩)) (h : BlkW b r N w) : OpTo Tryz.prog o ρ w (Wh b N) := by
  obtain ⟨lv, h1, h2, h3⟩ := h
  refine .value (.agg #[.bool (decide (N < 0)), lv]) ?_ ⟨lv, rfl, h2⟩
  have q0 : w.cell? ⟨r, 0, none⟩ = some (.bool (decide (N < 0))) := h1.cell 0
  have q1 : w.cell? ⟨r, 1, none⟩ = some lv := h1.cell 1
  unfold execOp
  rw [ho]
  simp [go_sem, hx, q0, q1]
theorem op_field0 {o : Oper} {ρ : Operand → Value} {w : World} {r : Nat} (x : Operand) (ho : o.op = .fieldAddr 24 x 0) (hx : ρ x = .pointer (some ⟨r, 0, none⟩)) : OpTo Tryz.prog o ρ w (IsV (.pointer (some ⟨r, 0, none⟩))) := by
  refine .value _ ?_ rfl
  unfold execOp
  rw [ho]
  simp [go_sem, hx]
theorem op_field1 {o : Oper} {ρ : Operand → Value} {w : World} {r : Nat} (x : Operand) (ho : o.op = .fieldAddr 24 x 1) (hx : ρ x = .pointer (some ⟨r, 0, none⟩)) : OpTo Tryz.prog o ρ w (IsV (.pointer (some ⟨r, 1, none⟩))) := by
  refine .value _ ?_ rfl
  unfold execOp
  rw [ho]
  simp [go_sem, hx]
theorem op_ldI {o : Oper} {ρ : Operand → Value} {w : World} {r i : Nat} {A : Int} (x : Operand) (ho : o.op = .load 3 x) (hx : ρ x = .pointer (some ⟨r, i, none⟩)) (h : w.cell? ⟨r, i, none⟩ = some (.int .i64 A)) : OpTo Tryz.prog o ρ w (IsV (.int .i64 A)) := by
  refine .value _ ?_ rfl
  unfold execOp
  rw [ho]
  simp [go_sem, hx, h]
/-- the elements of a row -/
def EltW (b g k : Nat) (xs : List Int) (w : World) : Prop := g < w.heap.size ∧ ∀ i, i < k → ∃ lv, w.cell? ⟨g, i * 2, none⟩ = some (.bool (decide (eat xs i < 0))) ∧ w.cell? ⟨g, i * 2 + 1, none⟩ = some lv ∧ RdO w b lv (dg (eat xs i).natAbs)
theorem EltW.next {b g k : Nat} {xs : List Int} {w w' : World} (h : EltW b g k xs w) (hb : Below w.heap.size w w') : EltW b g k xs w' := ⟨Nat.lt_of_lt_of_le h.1 hb.size, fun i hi => by
  obtain ⟨lv, q0, q1, q2⟩ := h.2 i hi
  exact ⟨lv, (hb.cell (p := ⟨g, i * 2, none⟩) h.1).trans q0, (hb.cell (p := ⟨g, i * 2 + 1, none⟩) h.1).trans q1, q2.below hb⟩⟩
theorem OwnsW.elt {w : World} {base b g cap k : Nat} {xs : List Int} (h : OwnsW w base b (.slice (some ⟨g, 0, none⟩) k cap) xs) (hk : 0 < k) : k = xs.length ∧ base ≤ g ∧ EltW b g k xs w := by
  obtain ⟨L, h1, hl, h2⟩ := h
  obtain ⟨a, cap', hv, _, hc⟩ := h1.form
  injection hv with e1 e2 e3
  obtain ⟨g', hg, _, _, _, hgl, hgb⟩ := hc 0 (by omega)
  rw [hg] at e1
  injection e1 with e1
  injection e1 with e1
  subst e1
  refine ⟨by omega, hgb, hgl, fun i hi => ?_⟩
  obtain ⟨g', hg', q1, q2, _⟩ := hc i (by omega)
  rw [hg] at hg'
  injection hg' with hg'
  injection hg' with hg'
  subst hg'
  obtain ⟨m1, m2⟩ := h2 i (by omega) (by omega)
  have he : eat xs i = xs[i]'(by omega) := by
    unfold eat
    rw [List.getElem?_eq_getElem (by omega)]; rfl
  exact ⟨L[i].2, by rw [q1, m1, he], q2, by rw [he]; exact m2⟩
/-- an element of a row of wholes: its place, its value -/
theorem op_idxW {o : Oper} {ρ : Operand → Value} {w : World} {g n cap i : Nat} (x y : Operand) (ho : o.op = .indexAddr 90 x y) (hx : ρ x = .slice (some ⟨g, 0, none⟩) n cap) (hy : ρ y = .int .i64 i) (hi : i < n) : OpTo Tryz.prog o ρ w (IsV (.pointer (some ⟨g, i * 2, none⟩))) := by
  refine .value _ ?_ rfl
  have i0 : (0 : Int) ≤ (i : Int) := by omega
  have i1 : (i : Int) < (n : Int) := by omega
  unfold execOp
  rw [ho]
  simp [go_sem, hx, hy, i0, i1]
theorem op_eltW {o : Oper} {ρ : Operand → Value} {w : World} {b g i : Nat} {N : Int} {lv : Value} (x : Operand) (ho : o.op = .load 37 x) (hx : ρ x = .pointer (some ⟨g, i * 2, none⟩)) (q0 : w.cell? ⟨g, i * 2, none⟩ = some (.bool (decide (N < 0)))) (q1 : w.cell? ⟨g, i * 2 + 1, none⟩ = some lv) (hr : RdO w b lv (dg N.natAbs)) : OpTo Tryz.prog o ρ w (Wh b N) := by
  refine .value (.agg #[.bool (decide (N < 0)), lv]) ?_ ⟨lv, rfl, hr⟩
  unfold execOp
  rw [ho]
  simp [go_sem, hx, q0, q1]
theorem op_eltX {o : Oper} {ρ : Operand → Value} {w : World} {b g k i : Nat} {xs : List Int} (x : Operand) (ho : o.op = .load 37 x) (hx : ρ x = .pointer (some ⟨g, i * 2, none⟩)) (h : EltW b g k xs w) (hi : i < k) : OpTo Tryz.prog o ρ w (Wh b (eat xs i)) := by
  obtain ⟨lv, q0, q1, q2⟩ := h.2 i hi
  exact op_eltW x ho hx q0 q1 q2
theorem OwnsW.next {w w1 : World} {base b : Nat} {v : Value} {Ns : List Int} (h : OwnsW w base b v Ns) (hb : Below w.heap.size w w1) : OwnsW w1 base b v Ns := h.below hb
theorem OwnsW.addr {w : World} {base b : Nat} {v : Value} {Ns : List Int} (h : OwnsW w base b v Ns) (hn : 0 < Ns.length) : ∃ g cap, v = .slice (some ⟨g, 0, none⟩) Ns.length cap ∧ base ≤ g ∧ Ns.length ≤ cap := by
  obtain ⟨L, h1, hl, h2⟩ := h
  obtain ⟨a, cap, hv, hcap, hc⟩ := h1.form
  obtain ⟨g, hg, _, _, _, _, hb⟩ := hc 0 (by omega)
  exact ⟨g, cap, by rw [hv, hg, hl], hb, by omega⟩
theorem OwnsW.far {w : World} {base b r' : Nat} {v : Value} {Ns : List Int} {cs : Array Value} (h : OwnsW w base b v Ns) (hne : v.ownBlock ≠ some r') (hk : Blk r' cs 37 w) (x y : Value) : OwnsW ((w.setCell ⟨r', 0, none⟩ x).setCell ⟨r', 1, none⟩ y) base b v Ns := by
  obtain ⟨L, h1, hl, h2⟩ := h
  refine ⟨L, ⟨h1.1, ?_⟩, hl, fun i a c => ⟨(h2 i a c).1, (h2 i a c).2.far (by decide) hk (over_set2 w r' x y)⟩⟩
  rcases h1.2 with h0 | ⟨g, cap, cur, hv, hg, hh, hr⟩
  · exact .inl h0
  · refine .inr ⟨g, cap, cur, hv, hg, ((over_set2 w r' x y).block g (Array.getElem?_eq_some_iff.1 hh).1 (fun hm => hne ?_)).trans hh, hr⟩
    rw [List.mem_singleton] at hm
    rw [hv, hm]; rfl
theorem BlkW.app {b0 r base b : Nat} {N : Int} {v : Value} {xs : List Int} {w w1 : World} (h : BlkW b0 r N w) (hD : OwnsW w base b v xs) (hO : Over v.ownBlock.toList w w1) (hne : v.ownBlock ≠ some r) : BlkW b0 r N w1 := by
  obtain ⟨lv, h1, h2, h3⟩ := h
  obtain ⟨L, k1, _⟩ := hD
  have hr : r ∉ v.ownBlock.toList := fun hm => hne (by simpa using hm)
  refine ⟨lv, h1.over hO hr, ?_, h3⟩
  rcases k1.2 with ⟨hv0, _⟩ | ⟨g2, cap2, cur2, hv2, _, hh2, _⟩
  · rw [hv0] at hO
    exact h2.below hO.below
  · rw [hv2] at hO
    exact h2.far (by decide) hh2 hO
/-- a whole is appended to a row of wholes -/
theorem wpList_appW {ops : Array Oper} {rest : List Oper} {o : Oper} {a : Act} {Q : Exit → Act → World → Prop} {wr : World} (hgd : o.guard = none) (s x : Operand)
    (ho : o.op = .call { callee := .builtin .append, args := #[s, x], argTypes := #[90, 90] })
    (base b c : Nat) (v u : Value) (xs : List Int) (N : Int) (hs : a.eval s = v) (hx : a.eval x = u) (hown : OwnsW wr base b v xs) (hu : OwnsW wr c b u [N]) (hbase : base ≤ wr.heap.size) (hlen : xs.length < 100000)
    (h : ∀ v' w1, OwnsW w1 base b v' (xs ++ [N]) → Over v.ownBlock.toList wr w1 → (∀ r K, BlkW b r K wr → v.ownBlock ≠ some r → BlkW b r K w1) → wpList Tryz.prog ops Q rest (a.put o.dst v') w1) : wpList Tryz.prog ops Q (o :: rest) a wr := by
  obtain ⟨L, h1, hl, h2⟩ := hown
  obtain ⟨M, k1, kl, k2⟩ := hu
  obtain ⟨a', cap, hu', _, hc⟩ := k1.form
  obtain ⟨g, hg, q0, q1, _⟩ := hc 0 (by rw [kl]; simp)
  obtain ⟨p, hM⟩ : ∃ p, M = [p] := by
    match M, kl with
    | [p], _ => exact ⟨p, rfl⟩
  subst hM hg
  obtain ⟨m1, m2⟩ := k2 0 (by simp) (by simp)
  simp only [List.getElem_cons_zero] at m1 m2 q0 q1
  have hp2 : p.2.oneCell' = true := by
    obtain ⟨_, _, e, _⟩ := m2.1
    rw [e]; rfl
  refine wpList_appQ hgd s x ho base v L [p] hs h1 ⟨g, 0, none⟩ cap (hx.trans hu') (fun j y hj => ?_) (fun y hy => ?_) (by simp; omega) hbase fun v' w1 ho2 hg2 => ?_
  · match j, hj with
    | 0, hj => simp [cellsV] at hj; subst hj; simpa [Addr.add] using q0
    | 1, hj => simp [cellsV] at hj; subst hj; simpa [Addr.add] using q1
  · simp only [cellsV, List.mem_cons, List.not_mem_nil, or_false] at hy
    rcases hy with rfl | rfl
    · rfl
    · exact hp2
  · have hfar : ∀ {lv : Value} {D : List Int}, RdO wr b lv D → RdO w1 b lv D := fun {lv D} hr => by
        rcases h1.2 with ⟨hv0, _⟩ | ⟨g2, cap2, cur2, hv2, _, hh2, _⟩
        · rw [hv0] at hg2
          exact hr.below ⟨hg2.os, hg2.tape, hg2.output, hg2.size, fun k hk => hg2.block k hk (by simp [Value.ownBlock])⟩
        · rw [hv2] at hg2
          exact hr.far (by decide) hh2 ⟨hg2.os, hg2.tape, hg2.output, hg2.size, fun k hk hn => hg2.block k hk (by simpa [Value.ownBlock] using hn)⟩
    refine h v' w1 ?_ ?_ fun r K ⟨lv, b1, b2, b3⟩ hr => ⟨lv, (hg2.block r b1.lt hr.symm).trans b1, hfar b2, b3⟩
    · refine ⟨_, ho2, by simp [hl], fun i hi hi' => ?_⟩
      rcases Nat.lt_or_ge i L.length with hlt | hge
      · obtain ⟨n1, n2⟩ := h2 i hlt (by omega)
        simp only [List.getElem_append_left hlt, List.getElem_append_left (show i < xs.length by omega)]
        exact ⟨n1, hfar n2⟩
      · obtain rfl : i = L.length := by simp at hi; omega
        simp only [List.getElem_append_right (Nat.le_refl _), Nat.sub_self, List.getElem_cons_zero]
        have e : (xs ++ [N])[L.length]'hi' = N := by
          rw [List.getElem_append_right (by omega)]
          simp [hl]
        rw [e]
        exact ⟨m1, hfar m2⟩
    · cases hv : v.ownBlock with
      | none => rw [hv] at hg2; exact ⟨hg2.os, hg2.tape, hg2.output, hg2.size, fun k hk _ => hg2.block k hk (by simp)⟩
      | some g2 => rw [hv] at hg2; exact ⟨hg2.os, hg2.tape, hg2.output, hg2.size, fun k hk hn => hg2.block k hk (by simpa using hn)⟩
/-- an element of a row that a call has given -/
def IsE (b i : Nat) (xs : List Int) : Value → World → Prop := fun v w => ∃ g, v = .pointer (some ⟨g, i * 2, none⟩) ∧ EltW b g xs.length xs w
theorem IsE.closed (b i : Nat) (xs : List Int) (v : Value) : Closed (IsE b i xs v) := fun _ _ ⟨g, h1, h2⟩ hb => ⟨g, h1, h2.next hb⟩
theorem op_idxE {o : Oper} {ρ : Operand → Value} {w : World} {base b i : Nat} {xs : List Int} (x y : Operand) (ho : o.op = .indexAddr 90 x y) (hx : OwnsW w base b (ρ x) xs) (hy : ρ y = .int .i64 i) (hi : i < xs.length) : OpTo Tryz.prog o ρ w (IsE b i xs) := by
  obtain ⟨g, cap, hv, _, _⟩ := hx.addr (by omega)
  have hE := (hv ▸ hx : OwnsW w base b (.slice (some ⟨g, 0, none⟩) xs.length cap) xs).elt (by omega)
  refine .value _ ?_ ⟨g, rfl, hE.2.2⟩
  have i0 : (0 : Int) ≤ (i : Int) := by omega
  have i1 : (i : Int) < (xs.length : Int) := by omega
  unfold execOp
  rw [ho]
  simp [go_sem, hv, hy, i0, i1]
theorem op_ldE {o : Oper} {ρ : Operand → Value} {w : World} {b i : Nat} {xs : List Int} (x : Operand) (ho : o.op = .load 37 x) (h : IsE b i xs (ρ x) w) (hi : i < xs.length) : OpTo Tryz.prog o ρ w (Wh b (eat xs i)) := by
  obtain ⟨g, hx, hE⟩ := h
  exact op_eltX x ho hx hE hi
/-- a whole that is 0 -/
theorem op_zeroW {o : Oper} {ρ : Operand → Value} {w : World} {b : Nat} (ho : o.op = .build 37 #[]) : OpTo Tryz.prog o ρ w (Wh b 0) := by
  refine .value (.agg #[.bool false, .slice none 0 0]) ?_ ⟨_, rfl, ?_⟩
  · unfold execOp
    rw [ho]
    simp [go_sem]
  · rw [Int.natAbs_zero, dg_zero]
    exact ⟨⟨none, 0, rfl, Nat.le_refl _, fun i hi => by simp at hi⟩, fun h => absurd rfl h⟩
theorem op_add {o : Oper} {ρ : Operand → Value} {w : World} {a c : Int} (x y : Operand) (ho : o.op = .binOp .add 3 x y 3) (hx : ρ x = .int .i64 a) (hy : ρ y = .int .i64 c) (h0 : -1000000 ≤ a + c) (h1 : a + c ≤ 1000000) : OpTo Tryz.prog o ρ w (IsV (.int .i64 (a + c))) := by
  refine .value _ ?_ rfl
  have hw : IntKind.i64.wrap (a + c) = a + c := by rw [Go.IntWalk.i64_left]; unfold wrap64; omega
  unfold execOp
  rw [ho]
  simp [go_sem, hx, hy, hw]
theorem op_sub {o : Oper} {ρ : Operand → Value} {w : World} {a c : Int} (x y : Operand) (ho : o.op = .binOp .sub 3 x y 3) (hx : ρ x = .int .i64 a) (hy : ρ y = .int .i64 c) (h0 : -1000000 ≤ a - c) (h1 : a - c ≤ 1000000) : OpTo Tryz.prog o ρ w (IsV (.int .i64 (a - c))) := by
  refine .value _ ?_ rfl
  have hw : IntKind.i64.wrap (a - c) = a - c := by rw [Go.IntWalk.i64_left]; unfold wrap64; omega
  unfold execOp
  rw [ho]
  simp [go_sem, hx, hy, hw]
theorem op_addN {o : Oper} {ρ : Operand → Value} {w : World} {a c : Nat} (x y : Operand) (ho : o.op = .binOp .add 3 x y 3) (hx : ρ x = .int .i64 a) (hy : ρ y = .int .i64 c) (h1 : a + c ≤ 1000000) : OpTo Tryz.prog o ρ w (IsV (.int .i64 ((a + c : Nat) : Int))) := by
  have h := op_add (w := w) x y ho hx hy (by omega) (by omega)
  rw [show ((a + c : Nat) : Int) = (a : Int) + (c : Int) by omega]
  exact h
theorem op_subN {o : Oper} {ρ : Operand → Value} {w : World} {a c : Nat} (x y : Operand) (ho : o.op = .binOp .sub 3 x y 3) (hx : ρ x = .int .i64 a) (hy : ρ y = .int .i64 c) (h1 : c ≤ a) (h2 : a ≤ 1000000) : OpTo Tryz.prog o ρ w (IsV (.int .i64 ((a - c : Nat) : Int))) := by
  have h := op_sub (w := w) x y ho hx hy (by omega) (by omega)
  rw [show ((a - c : Nat) : Int) = (a : Int) - (c : Int) by omega]
  exact h
theorem op_len {o : Oper} {ρ : Operand → Value} {w : World} {a : Option Addr} {n cap : Nat} (x : Operand) (ho : o.op = .call { callee := .builtin .len, args := #[x], argTypes := #[90] }) (hx : ρ x = .slice a n cap) : OpTo Tryz.prog o ρ w (IsV (.int .i64 (n : Int))) := by
  refine .value _ ?_ rfl
  unfold execOp
  rw [ho]
  simp [go_sem, hx]
theorem op_mul {o : Oper} {ρ : Operand → Value} {w : World} {a c : Int} (x y : Operand) (ho : o.op = .binOp .mul 3 x y 3) (hx : ρ x = .int .i64 a) (hy : ρ y = .int .i64 c) (h : -1000000000000000000 ≤ a * c ∧ a * c ≤ 1000000000000000000) : OpTo Tryz.prog o ρ w (IsV (.int .i64 (a * c))) := by
  refine .value _ ?_ rfl
  have hw : IntKind.i64.wrap (a * c) = a * c := by rw [Go.IntWalk.i64_left]; unfold wrap64; omega
  unfold execOp
  rw [ho]
  simp [go_sem, hx, hy, hw]
theorem op_add9 {o : Oper} {ρ : Operand → Value} {w : World} {a c : Int} (x y : Operand) (ho : o.op = .binOp .add 3 x y 3) (hx : ρ x = .int .i64 a) (hy : ρ y = .int .i64 c) (h : -1000000000000000000 ≤ a + c ∧ a + c ≤ 1000000000000000000) : OpTo Tryz.prog o ρ w (IsV (.int .i64 (a + c))) := by
  refine .value _ ?_ rfl
  have hw : IntKind.i64.wrap (a + c) = a + c := by rw [Go.IntWalk.i64_left]; unfold wrap64; omega
  unfold execOp
  rw [ho]
  simp [go_sem, hx, hy, hw]
theorem op_bs1 {o : Oper} {ρ : Operand → Value} {w : World} {b : Nat} (x0 : Operand) (N0 : Int) (ho : o.op = .buildSlice 90 1 #[(0, x0)]) (h0 : Wh b N0 (ρ x0) w) :
    OpTo Tryz.prog o ρ w (IsWs [N0]) := by
  obtain ⟨l0, e0, r0, c0⟩ := h0.cell
  have hb : Below w.heap.size w (w.alloc (.cells (cellsV [(decide (N0 < 0), l0)]).toArray 37)) := (Below.refl _ _).alloc (Nat.le_refl _) _
  refine OpTo.make (.slice (some ⟨w.heap.size, 0, none⟩) 1 1) (w.alloc (.cells (cellsV [(decide (N0 < 0), l0)]).toArray 37)) ?_ hb ((OwnsV.new w w.heap.size [(decide (N0 < 0), l0)] (Nat.le_refl _) (by simp) (by simp)).rds rfl ?_)
  · unfold execOp
    rw [ho]
    simp [go_sem, cellsV, e0]
  · intro i h h'
    match i, h, h' with
    | 0, _, _ => exact ⟨rfl, r0.1.below hb⟩
theorem op_bo1 {o : Oper} {ρ : Operand → Value} {w : World} {b base : Nat} (x0 : Operand) (N0 : Int) (hbase : base ≤ w.heap.size) (ho : o.op = .buildSlice 90 1 #[(0, x0)]) (h0 : Wh b N0 (ρ x0) w) :
    OpTo Tryz.prog o ρ w (fun v w' => OwnsW w' base b v [N0]) := by
  obtain ⟨l0, e0, r0, c0⟩ := h0.cell
  have hb : Below w.heap.size w (w.alloc (.cells (cellsV [(decide (N0 < 0), l0)]).toArray 37)) := (Below.refl _ _).alloc (Nat.le_refl _) _
  refine OpTo.make (.slice (some ⟨w.heap.size, 0, none⟩) 1 1) (w.alloc (.cells (cellsV [(decide (N0 < 0), l0)]).toArray 37)) ?_ hb ⟨_, OwnsV.new w base [(decide (N0 < 0), l0)] hbase (by simp) (by simp), rfl, ?_⟩
  · unfold execOp
    rw [ho]
    simp [go_sem, cellsV, e0]
  · intro i h h'
    match i, h, h' with
    | 0, _, _ => exact ⟨rfl, r0.below hb⟩
theorem op_bs2 {o : Oper} {ρ : Operand → Value} {w : World} {b : Nat} (x0 x1 : Operand) (N0 N1 : Int) (ho : o.op = .buildSlice 90 2 #[(0, x0), (1, x1)]) (h0 : Wh b N0 (ρ x0) w) (h1 : Wh b N1 (ρ x1) w) :
    OpTo Tryz.prog o ρ w (IsWs [N0, N1]) := by
  obtain ⟨l0, e0, r0, c0⟩ := h0.cell
  obtain ⟨l1, e1, r1, c1⟩ := h1.cell
  have hb : Below w.heap.size w (w.alloc (.cells (cellsV [(decide (N0 < 0), l0), (decide (N1 < 0), l1)]).toArray 37)) := (Below.refl _ _).alloc (Nat.le_refl _) _
  refine OpTo.make (.slice (some ⟨w.heap.size, 0, none⟩) 2 2) (w.alloc (.cells (cellsV [(decide (N0 < 0), l0), (decide (N1 < 0), l1)]).toArray 37)) ?_ hb ((OwnsV.new w w.heap.size [(decide (N0 < 0), l0), (decide (N1 < 0), l1)] (Nat.le_refl _) (by simp) (by simp)).rds rfl ?_)
  · unfold execOp
    rw [ho]
    simp [go_sem, cellsV, e0, e1]
  · intro i h h'
    match i, h, h' with
    | 0, _, _ => exact ⟨rfl, r0.1.below hb⟩
    | 1, _, _ => exact ⟨rfl, r1.1.below hb⟩
theorem op_bs3 {o : Oper} {ρ : Operand → Value} {w : World} {b : Nat} (x0 x1 x2 : Operand) (N0 N1 N2 : Int) (ho : o.op = .buildSlice 90 3 #[(0, x0), (1, x1), (2, x2)]) (h0 : Wh b N0 (ρ x0) w) (h1 : Wh b N1 (ρ x1) w) (h2 : Wh b N2 (ρ x2) w) :
    OpTo Tryz.prog o ρ w (IsWs [N0, N1, N2]) := by
  obtain ⟨l0, e0, r0, c0⟩ := h0.cell
  obtain ⟨l1, e1, r1, c1⟩ := h1.cell
  obtain ⟨l2, e2, r2, c2⟩ := h2.cell
  have hb : Below w.heap.size w (w.alloc (.cells (cellsV [(decide (N0 < 0), l0), (decide (N1 < 0), l1), (decide (N2 < 0), l2)]).toArray 37)) := (Below.refl _ _).alloc (Nat.le_refl _) _
  refine OpTo.make (.slice (some ⟨w.heap.size, 0, none⟩) 3 3) (w.alloc (.cells (cellsV [(decide (N0 < 0), l0), (decide (N1 < 0), l1), (decide (N2 < 0), l2)]).toArray 37)) ?_ hb ((OwnsV.new w w.heap.size [(decide (N0 < 0), l0), (decide (N1 < 0), l1), (decide (N2 < 0), l2)] (Nat.le_refl _) (by simp) (by simp)).rds rfl ?_)
  · unfold execOp
    rw [ho]
    simp [go_sem, cellsV, e0, e1, e2]
  · intro i h h'
    match i, h, h' with
    | 0, _, _ => exact ⟨rfl, r0.1.below hb⟩
    | 1, _, _ => exact ⟨rfl, r1.1.below hb⟩
    | 2, _, _ => exact ⟨rfl, r2.1.below hb⟩
theorem op_bs4 {o : Oper} {ρ : Operand → Value} {w : World} {b : Nat} (x0 x1 x2 x3 : Operand) (N0 N1 N2 N3 : Int) (ho : o.op = .buildSlice 90 4 #[(0, x0), (1, x1), (2, x2), (3, x3)]) (h0 : Wh b N0 (ρ x0) w) (h1 : Wh b N1 (ρ x1) w) (h2 : Wh b N2 (ρ x2) w) (h3 : Wh b N3 (ρ x3) w) :
    OpTo Tryz.prog o ρ w (IsWs [N0, N1, N2, N3]) := by
  obtain ⟨l0, e0, r0, c0⟩ := h0.cell
  obtain ⟨l1, e1, r1, c1⟩ := h1.cell
  obtain ⟨l2, e2, r2, c2⟩ := h2.cell
  obtain ⟨l3, e3, r3, c3⟩ := h3.cell
  have hb : Below w.heap.size w (w.alloc (.cells (cellsV [(decide (N0 < 0), l0), (decide (N1 < 0), l1), (decide (N2 < 0), l2), (decide (N3 < 0), l3)]).toArray 37)) := (Below.refl _ _).alloc (Nat.le_refl _) _
  refine OpTo.make (.slice (some ⟨w.heap.size, 0, none⟩) 4 4) (w.alloc (.cells (cellsV [(decide (N0 < 0), l0), (decide (N1 < 0), l1), (decide (N2 < 0), l2), (decide (N3 < 0), l3)]).toArray 37)) ?_ hb ((OwnsV.new w w.heap.size [(decide (N0 < 0), l0), (decide (N1 < 0), l1), (decide (N2 < 0), l2), (decide (N3 < 0), l3)] (Nat.le_refl _) (by simp) (by simp)).rds rfl ?_)
  · unfold execOp
    rw [ho]
    simp [go_sem, cellsV, e0, e1, e2, e3]
  · intro i h h'
    match i, h, h' with
    | 0, _, _ => exact ⟨rfl, r0.1.below hb⟩
    | 1, _, _ => exact ⟨rfl, r1.1.below hb⟩
    | 2, _, _ => exact ⟨rfl, r2.1.below hb⟩
    | 3, _, _ => exact ⟨rfl, r3.1.below hb⟩
theorem op_bs5 {o : Oper} {ρ : Operand → Value} {w : World} {b : Nat} (x0 x1 x2 x3 x4 : Operand) (N0 N1 N2 N3 N4 : Int) (ho : o.op = .buildSlice 90 5 #[(0, x0), (1, x1), (2, x2), (3, x3), (4, x4)]) (h0 : Wh b N0 (ρ x0) w) (h1 : Wh b N1 (ρ x1) w) (h2 : Wh b N2 (ρ x2) w) (h3 : Wh b N3 (ρ x3) w) (h4 : Wh b N4 (ρ x4) w) :
    OpTo Tryz.prog o ρ w (IsWs [N0, N1, N2, N3, N4]) := by
  obtain ⟨l0, e0, r0, c0⟩ := h0.cell
  obtain ⟨l1, e1, r1, c1⟩ := h1.cell
  obtain ⟨l2, e2, r2, c2⟩ := h2.cell
  obtain ⟨l3, e3, r3, c3⟩ := h3.cell
  obtain ⟨l4, e4, r4, c4⟩ := h4.cell
  have hb : Below w.heap.size w (w.alloc (.cells (cellsV [(decide (N0 < 0), l0), (decide (N1 < 0), l1), (decide (N2 < 0), l2), (decide (N3 < 0), l3), (decide (N4 < 0), l4)]).toArray 37)) := (Below.refl _ _).alloc (Nat.le_refl _) _
  refine OpTo.make (.slice (some ⟨w.heap.size, 0, none⟩) 5 5) (w.alloc (.cells (cellsV [(decide (N0 < 0), l0), (decide (N1 < 0), l1), (decide (N2 < 0), l2), (decide (N3 < 0), l3), (decide (N4 < 0), l4)]).toArray 37)) ?_ hb ((OwnsV.new w w.heap.size [(decide (N0 < 0), l0), (decide (N1 < 0), l1), (decide (N2 < 0), l2), (decide (N3 < 0), l3), (decide (N4 < 0), l4)] (Nat.le_refl _) (by simp) (by simp)).rds rfl ?_)
  · unfold execOp
    rw [ho]
    simp [go_sem, cellsV, e0, e1, e2, e3, e4]
  · intro i h h'
    match i, h, h' with
    | 0, _, _ => exact ⟨rfl, r0.1.below hb⟩
    | 1, _, _ => exact ⟨rfl, r1.1.below hb⟩
    | 2, _, _ => exact ⟨rfl, r2.1.below hb⟩
    | 3, _, _ => exact ⟨rfl, r3.1.below hb⟩
    | 4, _, _ => exact ⟨rfl, r4.1.below hb⟩
theorem op_bo5 {o : Oper} {ρ : Operand → Value} {w : World} {b base : Nat} (x0 x1 x2 x3 x4 : Operand) (N0 N1 N2 N3 N4 : Int) (hbase : base ≤ w.heap.size) (ho : o.op = .buildSlice 90 5 #[(0, x0), (1, x1), (2, x2), (3, x3), (4, x4)]) (h0 : Wh b N0 (ρ x0) w) (h1 : Wh b N1 (ρ x1) w) (h2 : Wh b N2 (ρ x2) w) (h3 : Wh b N3 (ρ x3) w) (h4 : Wh b N4 (ρ x4) w) :
    OpTo Tryz.prog o ρ w (fun v w' => OwnsW w' base b v [N0, N1, N2, N3, N4]) := by
  obtain ⟨l0, e0, r0, c0⟩ := h0.cell
  obtain ⟨l1, e1, r1, c1⟩ := h1.cell
  obtain ⟨l2, e2, r2, c2⟩ := h2.cell
  obtain ⟨l3, e3, r3, c3⟩ := h3.cell
  obtain ⟨l4, e4, r4, c4⟩ := h4.cell
  have hb : Below w.heap.size w (w.alloc (.cells (cellsV [(decide (N0 < 0), l0), (decide (N1 < 0), l1), (decide (N2 < 0), l2), (decide (N3 < 0), l3), (decide (N4 < 0), l4)]).toArray 37)) := (Below.refl _ _).alloc (Nat.le_refl _) _
  refine OpTo.make (.slice (some ⟨w.heap.size, 0, none⟩) 5 5) (w.alloc (.cells (cellsV [(decide (N0 < 0), l0), (decide (N1 < 0), l1), (decide (N2 < 0), l2), (decide (N3 < 0), l3), (decide (N4 < 0), l4)]).toArray 37)) ?_ hb ⟨_, OwnsV.new w base [(decide (N0 < 0), l0), (decide (N1 < 0), l1), (decide (N2 < 0), l2), (decide (N3 < 0), l3), (decide (N4 < 0), l4)] hbase (by simp) (by simp), rfl, ?_⟩
  · unfold execOp
    rw [ho]
    simp [go_sem, cellsV, e0, e1, e2, e3, e4]
  · intro i h h'
    match i, h, h' with
    | 0, _, _ => exact ⟨rfl, r0.below hb⟩
    | 1, _, _ => exact ⟨rfl, r1.below hb⟩
    | 2, _, _ => exact ⟨rfl, r2.below hb⟩
    | 3, _, _ => exact ⟨rfl, r3.below hb⟩
    | 4, _, _ => exact ⟨rfl, r4.below hb⟩
theorem op_bs6 {o : Oper} {ρ : Operand → Value} {w : World} {b : Nat} (x0 x1 x2 x3 x4 x5 : Operand) (N0 N1 N2 N3 N4 N5 : Int) (ho : o.op = .buildSlice 90 6 #[(0, x0), (1, x1), (2, x2), (3, x3), (4, x4), (5, x5)]) (h0 : Wh b N0 (ρ x0) w) (h1 : Wh b N1 (ρ x1) w) (h2 : Wh b N2 (ρ x2) w) (h3 : Wh b N3 (ρ x3) w) (h4 : Wh b N4 (ρ x4) w) (h5 : Wh b N5 (ρ x5) w) :
    OpTo Tryz.prog o ρ w (IsWs [N0, N1, N2, N3, N4, N5]) := by
  obtain ⟨l0, e0, r0, c0⟩ := h0.cell
  obtain ⟨l1, e1, r1, c1⟩ := h1.cell
  obtain ⟨l2, e2, r2, c2⟩ := h2.cell
  obtain ⟨l3, e3, r3, c3⟩ := h3.cell
  obtain ⟨l4, e4, r4, c4⟩ := h4.cell
  obtain ⟨l5, e5, r5, c5⟩ := h5.cell
  have hb : Below w.heap.size w (w.alloc (.cells (cellsV [(decide (N0 < 0), l0), (decide (N1 < 0), l1), (decide (N2 < 0), l2), (decide (N3 < 0), l3), (decide (N4 < 0), l4), (decide (N5 < 0), l5)]).toArray 37)) := (Below.refl _ _).alloc (Nat.le_refl _) _
  refine OpTo.make (.slice (some ⟨w.heap.size, 0, none⟩) 6 6) (w.alloc (.cells (cellsV [(decide (N0 < 0), l0), (decide (N1 < 0), l1), (decide (N2 < 0), l2), (decide (N3 < 0), l3), (decide (N4 < 0), l4), (decide (N5 < 0), l5)]).toArray 37)) ?_ hb ((OwnsV.new w w.heap.size [(decide (N0 < 0), l0), (decide (N1 < 0), l1), (decide (N2 < 0), l2), (decide (N3 < 0), l3), (decide (N4 < 0), l4), (decide (N5 < 0), l5)] (Nat.le_refl _) (by simp) (by simp)).rds rfl ?_)
  · unfold execOp
    rw [ho]
    simp [go_sem, cellsV, e0, e1, e2, e3, e4, e5]
  · intro i h h'
    match i, h, h' with
    | 0, _, _ => exact ⟨rfl, r0.1.below hb⟩
    | 1, _, _ => exact ⟨rfl, r1.1.below hb⟩
    | 2, _, _ => exact ⟨rfl, r2.1.below hb⟩
    | 3, _, _ => exact ⟨rfl, r3.1.below hb⟩
    | 4, _, _ => exact ⟨rfl, r4.1.below hb⟩
    | 5, _, _ => exact ⟨rfl, r5.1.below hb⟩
theorem op_bs7 {o : Oper} {ρ : Operand → Value} {w : World} {b : Nat} (x0 x1 x2 x3 x4 x5 x6 : Operand) (N0 N1 N2 N3 N4 N5 N6 : Int) (ho : o.op = .buildSlice 90 7 #[(0, x0), (1, x1), (2, x2), (3, x3), (4, x4), (5, x5), (6, x6)]) (h0 : Wh b N0 (ρ x0) w) (h1 : Wh b N1 (ρ x1) w) (h2 : Wh b N2 (ρ x2) w) (h3 : Wh b N3 (ρ x3) w) (h4 : Wh b N4 (ρ x4) w) (h5 : Wh b N5 (ρ x5) w) (h6 : Wh b N6 (ρ x6) w) :
    OpTo Tryz.prog o ρ w (IsWs [N0, N1, N2, N3, N4, N5, N6]) := by
  obtain ⟨l0, e0, r0, c0⟩ := h0.cell
  obtain ⟨l1, e1, r1, c1⟩ := h1.cell
  obtain ⟨l2, e2, r2, c2⟩ := h2.cell
  obtain ⟨l3, e3, r3, c3⟩ := h3.cell
  obtain ⟨l4, e4, r4, c4⟩ := h4.cell
  obtain ⟨l5, e5, r5, c5⟩ := h5.cell
  obtain ⟨l6, e6, r6, c6⟩ := h6.cell
  have hb : Below w.heap.size w (w.alloc (.cells (cellsV [(decide (N0 < 0), l0), (decide (N1 < 0), l1), (decide (N2 < 0), l2), (decide (N3 < 0), l3), (decide (N4 < 0), l4), (decide (N5 < 0), l5), (decide (N6 < 0), l6)]).toArray 37)) := (Below.refl _ _).alloc (Nat.le_refl _) _
  refine OpTo.make (.slice (some ⟨w.heap.size, 0, none⟩) 7 7) (w.alloc (.cells (cellsV [(decide (N0 < 0), l0), (decide (N1 < 0), l1), (decide (N2 < 0), l2), (decide (N3 < 0), l3), (decide (N4 < 0), l4), (decide (N5 < 0), l5), (decide (N6 < 0), l6)]).toArray 37)) ?_ hb ((OwnsV.new w w.heap.size [(decide (N0 < 0), l0), (decide (N1 < 0), l1), (decide (N2 < 0), l2), (decide (N3 < 0), l3), (decide (N4 < 0), l4), (decide (N5 < 0), l5), (decide (N6 < 0), l6)] (Nat.le_refl _) (by simp) (by simp)).rds rfl ?_)
  · unfold execOp
    rw [ho]
    simp [go_sem, cellsV, e0, e1, e2, e3, e4, e5, e6]
  · intro i h h'
    match i, h, h' with
    | 0, _, _ => exact ⟨rfl, r0.1.below hb⟩
    | 1, _, _ => exact ⟨rfl, r1.1.below hb⟩
    | 2, _, _ => exact ⟨rfl, r2.1.below hb⟩
    | 3, _, _ => exact ⟨rfl, r3.1.below hb⟩
    | 4, _, _ => exact ⟨rfl, r4.1.below hb⟩
    | 5, _, _ => exact ⟨rfl, r5.1.below hb⟩
    | 6, _, _ => exact ⟨rfl, r6.1.below hb⟩
end Go.Proofs.YtgjdgcmmlfmhmaaGreatDoor
