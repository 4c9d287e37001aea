/- Several texts joined: DrawT Dr DrC DrA DrP DrD DrV. -/
import Derived.Test.YtgjdgcmmlfmhmaaGreatDoorDraw
import Derived.Deep.Cut
import Derived.BigRegion
import Derived.Test.YtgjdgcmmlfmhmaaGreatDoorStV
/- DrawT -/
namespace Go.Proofs.YtgjdgcmmlfmhmaaGreatDoor
open Go.RowKit

/-- a cursor made anew -/
theorem Cur.new {v : Value} {xs : List Int} {w : World} (h : RdB w w.heap.size v xs) : Cur w.heap.size w.heap.size v xs 0 (w.alloc (.cells #[v, .int .i64 0, .int .u64 0] 63)) :=
  ⟨Nat.le_refl _, by simp, h.below ((Below.refl _ _).alloc (Nat.le_refl _) _) (Nat.le_refl _), 0, 0, Nat.le_refl _, by omega, by omega, Blk.new w _ _⟩
theorem below_over {w w' : World} {o : Obj} (h : Over [w.heap.size] (w.alloc o) w') : Below w.heap.size w w' :=
  h.belowGe ((Below.refl _ _).alloc (Nat.le_refl _) o) (by simp) (by simp)
def OnePost (lo hi : Int) (w : World) (e : Ending) (w' : World) : Prop := ∃ p : Int, e = .returned (.int .i64 p) ∧ lo ≤ p ∧ p ≤ hi ∧ Below w.heap.size w w'
def TwoPost (w : World) (e : Ending) (w' : World) : Prop := ∃ p n : Int, e = .returned (.tuple #[.int .i64 p, .int .i64 n]) ∧ 0 ≤ p ∧ p ≤ 37 ∧ -9223372036854775808 ≤ n ∧ n ≤ 9223372036854775807 ∧ Below w.heap.size w w'
end Go.Proofs.YtgjdgcmmlfmhmaaGreatDoor

/- Dr -/
namespace Go.Proofs.YtgjdgcmmlfmhmaaGreatDoor
open Go.RowKit

theorem RdB.set {w : World} {B S : Nat} {v x : Value} {xs : List Int} {o : Nat} (h : RdB w B v xs) (hS : B ≤ S) : RdB (w.setCell ⟨S, o, none⟩ x) B v xs := by
  obtain ⟨a, cap, hv, hm, hc⟩ := h
  refine ⟨a, cap, hv, hm, fun i hi => ?_⟩
  obtain ⟨g, o', ha, h1, h2, h3, h4⟩ := hc i hi
  refine ⟨g, o', ha, ?_, h2, h3, h4⟩
  exact (World.cell?_of_block (w := w) (Below.heap_setCell _ _ _ _ (by show g ≠ S; omega))).trans h1
theorem Over.sub {ex ex' : List Nat} {W w : World} (h : Over ex W w) (hs : ∀ x ∈ ex, x ∈ ex') : Over ex' W w := ⟨h.os, h.tape, h.output, h.size, fun k hk hn => h.block k hk fun hm => hn (hs k hm)⟩
/-- at world w at most n numbers were drawn at cursor k since w0; the blocks bl are new since then, and known whole -/
structure Dr (B k : Nat) (v : Value) (xs : List Int) (n : Nat) (w0 : World) (bl : List (Nat × Array Value × TypeId)) (w : World) : Prop where
  cur : Cur B k v xs n w
  ovr : Over [k] w0 w
  mem : MemL bl w
  far : ∀ b ∈ bl, b.1 ≠ k ∧ w0.heap.size ≤ b.1 ∧ B ≤ b.1
  dif : bl.Pairwise (fun a b => a.1 ≠ b.1)
section
variable {B k n : Nat} {v : Value} {xs : List Int} {w0 w w1 : World} {bl : List (Nat × Array Value × TypeId)} {S : Nat} {cs : Array Value} {T : TypeId}
theorem Dr.start (h : Cur B k v xs n w) : Dr B k v xs n w [] w := ⟨h, Over.refl _ _, (fun _ hx => (List.not_mem_nil hx).elim), (fun _ hb => (List.not_mem_nil hb).elim), List.Pairwise.nil⟩
theorem Dr.skip (d : Dr B k v xs n w0 bl w) (o : Obj) : Dr B k v xs n w0 bl (w.alloc o) :=
  ⟨d.cur.below ((Below.refl _ _).alloc (Nat.le_refl _) _), d.ovr.alloc o, fun x hx => (d.mem x hx).alloc o, d.far, d.dif⟩
theorem Dr.alloc (d : Dr B k v xs n w0 bl w) (cs : Array Value) (T : TypeId) : Dr B k v xs n w0 ((w.heap.size, cs, T) :: bl) (w.alloc (.cells cs T)) := by
  have hk := d.cur.2.1
  have hB := d.cur.1
  have hs := d.ovr.size
  refine ⟨(d.skip _).cur, (d.skip _).ovr, fun x hx => ?_, fun b hb => ?_, ?_⟩
  · rcases List.mem_cons.1 hx with rfl | hx
    · exact Blk.new w cs T
    · exact (d.skip _).mem x hx
  · rcases List.mem_cons.1 hb with rfl | hb
    · exact ⟨by show w.heap.size ≠ k; omega, hs, by show B ≤ w.heap.size; omega⟩
    · exact d.far b hb
  · refine List.pairwise_cons.2 ⟨fun b hb => ?_, d.dif⟩
    have := Blk.lt (d.mem b hb)
    show w.heap.size ≠ b.1
    omega
theorem Dr.go {m : Nat} (d : Dr B k v xs n w0 bl w) (hc : Cur B k v xs m w1) (ho : Over [k] w w1) : Dr B k v xs m w0 bl w1 :=
  ⟨hc, d.ovr.trans ho, fun x hx => (d.mem x hx).over ho (by simpa using (d.far x hx).1), d.far, d.dif⟩
theorem Dr.below (d : Dr B k v xs n w0 bl w) (hb : Below w.heap.size w w1) : Dr B k v xs n w0 bl w1 := d.go (d.cur.below hb) (.of_below hb)
theorem Dr.le {m : Nat} (d : Dr B k v xs n w0 bl w) (h : n ≤ m) : Dr B k v xs m w0 bl w := ⟨d.cur.le h, d.ovr, d.mem, d.far, d.dif⟩
theorem Dr.swap {a b : Nat × Array Value × TypeId} (d : Dr B k v xs n w0 (a :: b :: bl) w) : Dr B k v xs n w0 (b :: a :: bl) w := by
  refine ⟨d.cur, d.ovr, fun x hx => d.mem x ?_, fun x hx => d.far x ?_, ?_⟩
  · simp only [List.mem_cons] at hx ⊢; rcases hx with h | h | h <;> simp [h]
  · simp only [List.mem_cons] at hx ⊢; rcases hx with h | h | h <;> simp [h]
  · have h := d.dif
    simp only [List.pairwise_cons, List.mem_cons] at h ⊢
    refine ⟨fun x hx => ?_, fun x hx => h.1 x (.inr hx), h.2.2⟩
    rcases hx with rfl | hx
    · exact fun e => h.1 b (.inl rfl) e.symm
    · exact h.2.1 x hx
theorem Dr.tail {a : Nat × Array Value × TypeId} (d : Dr B k v xs n w0 (a :: bl) w) : Dr B k v xs n w0 bl w := ⟨d.cur, d.ovr, fun x hx => d.mem x (by simp [hx]), fun x hx => d.far x (by simp [hx]), (List.pairwise_cons.1 d.dif).2⟩
theorem Dr.head (d : Dr B k v xs n w0 ((S, cs, T) :: bl) w) : Blk S cs T w := d.mem (S, cs, T) (by simp)
theorem Dr.set (d : Dr B k v xs n w0 ((S, cs, T) :: bl) w) (o : Nat) (x : Value) : Dr B k v xs n w0 ((S, cs.setIfInBounds o x, T) :: bl) (w.setCell ⟨S, o, none⟩ x) := by
  have hf := d.far (S, cs, T) (by simp)
  have hf1 : S ≠ k := hf.1
  have hf2 : w0.heap.size ≤ S := hf.2.1
  have hf3 : B ≤ S := hf.2.2
  obtain ⟨h1, h2, h3, a, s, h4, h5, h6, h7⟩ := d.cur
  refine ⟨⟨h1, by simpa [World.setCell] using h2, h3.set hf3, a, s, h4, h5, h6, h7.far (by show k ≠ S; omega) _⟩, d.ovr.setCell (.inl hf2) x, fun y hy => ?_, fun b hb => ?_, ?_⟩
  · rcases List.mem_cons.1 hy with rfl | hy
    · exact d.head.set o x
    · refine (d.mem y (by simp [hy])).far ?_ _
      exact fun e => (List.pairwise_cons.1 d.dif).1 y hy e.symm
  · rcases List.mem_cons.1 hb with rfl | hb
    · exact hf
    · exact d.far b (by simp [hb])
  · have := List.pairwise_cons.1 d.dif
    exact List.pairwise_cons.2 ⟨fun b hb => this.1 b hb, this.2⟩
end
section
variable {B k n : Nat} {v : Value} {xs : List Int} {w0 w w1 : World} {bl : List (Nat × Array Value × TypeId)} {S : Nat} {T : TypeId} {a b c : Value}
theorem Dr.s0 (d : Dr B k v xs n w0 ((S, #[a, b], T) :: bl) w) (x : Value) : Dr B k v xs n w0 ((S, #[x, b], T) :: bl) (w.setCell ⟨S, 0, none⟩ x) := d.set 0 x
theorem Dr.s1 (d : Dr B k v xs n w0 ((S, #[a, b], T) :: bl) w) (x : Value) : Dr B k v xs n w0 ((S, #[a, x], T) :: bl) (w.setCell ⟨S, 1, none⟩ x) := d.set 1 x
theorem Dr.s01 (d : Dr B k v xs n w0 ((S, #[a, b], T) :: bl) w) (x y : Value) : Dr B k v xs n w0 ((S, #[x, y], T) :: bl) ((w.setCell ⟨S, 0, none⟩ x).setCell ⟨S, 1, none⟩ y) := (d.set 0 x).set 1 y
theorem Dr.s012 (d : Dr B k v xs n w0 ((S, #[a, b, c], T) :: bl) w) (x y z : Value) : Dr B k v xs n w0 ((S, #[x, y, z], T) :: bl) (((w.setCell ⟨S, 0, none⟩ x).setCell ⟨S, 1, none⟩ y).setCell ⟨S, 2, none⟩ z) := ((d.set 0 x).set 1 y).set 2 z
theorem Dr.two (d : Dr B k v xs n w0 ((S, #[a, b], T) :: bl) w) : w.cell? ⟨S, 0, none⟩ = some a ∧ w.cell? ⟨S, 1, none⟩ = some b ∧ w.frozen? ⟨S, 0, none⟩ = false ∧ w.frozen? ⟨S, 1, none⟩ = false := ⟨d.head.cell 0, d.head.cell 1, d.head.frozen 0, d.head.frozen 1⟩
theorem Dr.three (d : Dr B k v xs n w0 ((S, #[a, b, c], T) :: bl) w) : w.cell? ⟨S, 0, none⟩ = some a ∧ w.cell? ⟨S, 1, none⟩ = some b ∧ w.cell? ⟨S, 2, none⟩ = some c ∧ w.frozen? ⟨S, 0, none⟩ = false ∧ w.frozen? ⟨S, 1, none⟩ = false ∧ w.frozen? ⟨S, 2, none⟩ = false := ⟨d.head.cell 0, d.head.cell 1, d.head.cell 2, d.head.frozen 0, d.head.frozen 1, d.head.frozen 2⟩
theorem RdB.overS {S : Nat} (h : RdB w B v xs) (ho : Over [S] w w1) (hB : B ≤ w.heap.size) (hS : B ≤ S) : RdB w1 B v xs := h.over ho hB hS
theorem Dr.stored {S : Nat} {T : TypeId} {cs cs' : Array Value} (d : Dr B k v xs n w0 ((S, cs, T) :: bl) w) (ho : Over [S] w w1) (hb : Blk S cs' T w1) : Dr B k v xs n w0 ((S, cs', T) :: bl) w1 := by
  have hf := d.far (S, cs, T) (by simp)
  have hf1 : S ≠ k := hf.1
  have hf2 : w0.heap.size ≤ S := hf.2.1
  have hf3 : B ≤ S := hf.2.2
  have hs := ho.size
  obtain ⟨h1, h2, h3, a, s, h4, h5, h6, h7⟩ := d.cur
  refine ⟨⟨h1, Nat.lt_of_lt_of_le h2 hs, h3.over ho (by omega) hf3, a, s, h4, h5, h6, h7.over ho (by simp; omega)⟩, ?_, fun y hy => ?_, fun b hb => ?_, ?_⟩
  · exact ⟨ho.os.trans d.ovr.os, ho.tape.trans d.ovr.tape, ho.output.trans d.ovr.output, Nat.le_trans d.ovr.size ho.size, fun j hj hn => (ho.block j (Nat.lt_of_lt_of_le hj d.ovr.size) (by simp; omega)).trans (d.ovr.block j hj hn)⟩
  · rcases List.mem_cons.1 hy with rfl | hy
    · exact hb
    · exact (d.mem y (by simp [hy])).over ho (by simpa using fun e => (List.pairwise_cons.1 d.dif).1 y hy e.symm)
  · rcases List.mem_cons.1 hb with rfl | hb
    · exact hf
    · exact d.far b (by simp [hb])
  · have := List.pairwise_cons.1 d.dif
    exact List.pairwise_cons.2 ⟨fun b hb => this.1 b hb, this.2⟩
/-- what a drawing function leaves -/
theorem Dr.out (d : Dr w0.heap.size k v xs n w0 bl w) : Below w0.heap.size w0 w :=
  d.ovr.belowGe (Below.refl _ _) (Nat.le_refl _) (by have := d.cur.1; simpa using this)
/-- a cursor made anew, no block ahead of it -/
theorem Dr.make0 (h : RdB w w.heap.size v xs) : Dr w.heap.size w.heap.size v xs 0 w [] (w.alloc (.cells #[v, .int .i64 0, .int .u64 0] 63)) :=
  ⟨Cur.new h, (Over.refl _ _).alloc _, (fun _ hx => (List.not_mem_nil hx).elim), (fun _ hb => (List.not_mem_nil hb).elim), List.Pairwise.nil⟩
/-- a cursor made anew behind one block -/
theorem Dr.make1 (h : RdB w w.heap.size v xs) (cs : Array Value) (T : TypeId) : Dr w.heap.size (w.heap.size + 1) v xs 0 w [(w.heap.size, cs, T)] ((w.alloc (.cells cs T)).alloc (.cells #[v, .int .i64 0, .int .u64 0] 63)) := by
  have h1 := h.below (w1 := w.alloc (.cells cs T)) ((Below.refl _ _).alloc (Nat.le_refl _) _) (Nat.le_refl _)
  have h2 := h1.below (w1 := (w.alloc (.cells cs T)).alloc (.cells #[v, .int .i64 0, .int .u64 0] 63)) ((Below.refl _ _).alloc (Nat.le_refl _) _) (by simp)
  refine ⟨⟨by omega, by simp, h2, 0, 0, Nat.le_refl _, by omega, by omega, ?_⟩, ((Over.refl _ _).alloc _).alloc _, fun x hx => ?_, fun b hb => ?_, by simp⟩
  · have := Blk.new (w.alloc (.cells cs T)) #[v, .int .i64 0, .int .u64 0] 63
    rw [World.size_alloc] at this
    exact this
  · rw [List.mem_singleton] at hx
    subst hx
    exact (Blk.new w cs T).alloc _
  · rw [List.mem_singleton] at hb
    subst hb
    exact ⟨by show w.heap.size ≠ w.heap.size + 1; omega, Nat.le_refl _, Nat.le_refl _⟩
/-- a cursor made anew behind two blocks -/
theorem Dr.make2 (h : RdB w w.heap.size v xs) (cs cs' : Array Value) (T T' : TypeId) :
    Dr w.heap.size (w.heap.size + 1 + 1) v xs 0 w [(w.heap.size, cs, T), (w.heap.size + 1, cs', T')] (((w.alloc (.cells cs T)).alloc (.cells cs' T')).alloc (.cells #[v, .int .i64 0, .int .u64 0] 63)) := by
  have h1 := h.below (w1 := w.alloc (.cells cs T)) ((Below.refl _ _).alloc (Nat.le_refl _) _) (Nat.le_refl _)
  have h2 := h1.below (w1 := (w.alloc (.cells cs T)).alloc (.cells cs' T')) ((Below.refl _ _).alloc (Nat.le_refl _) _) (by simp)
  have h3 := h2.below (w1 := ((w.alloc (.cells cs T)).alloc (.cells cs' T')).alloc (.cells #[v, .int .i64 0, .int .u64 0] 63)) ((Below.refl _ _).alloc (Nat.le_refl _) _) (by simp; omega)
  refine ⟨⟨by omega, by simp, h3, 0, 0, Nat.le_refl _, by omega, by omega, ?_⟩, (((Over.refl _ _).alloc _).alloc _).alloc _, fun x hx => ?_, fun b hb => ?_, by simp⟩
  · have := Blk.new ((w.alloc (.cells cs T)).alloc (.cells cs' T')) #[v, .int .i64 0, .int .u64 0] 63
    rw [World.size_alloc, World.size_alloc] at this
    exact this
  · simp only [List.mem_cons, List.not_mem_nil, or_false] at hx
    rcases hx with rfl | rfl
    · exact ((Blk.new w cs T).alloc _).alloc _
    · have := (Blk.new (w.alloc (.cells cs T)) cs' T').alloc (.cells #[v, .int .i64 0, .int .u64 0] 63)
      rw [World.size_alloc] at this
      exact this
  · simp only [List.mem_cons, List.not_mem_nil, or_false] at hb
    rcases hb with rfl | rfl
    · exact ⟨by show w.heap.size ≠ w.heap.size + 1 + 1; omega, Nat.le_refl _, Nat.le_refl _⟩
    · exact ⟨by show w.heap.size + 1 ≠ w.heap.size + 1 + 1; omega, by show w.heap.size ≤ w.heap.size + 1; omega, by show w.heap.size ≤ w.heap.size + 1; omega⟩
end
/-- a number, drawn -/
def NumD (B k : Nat) (v : Value) (xs : List Int) (n : Nat) (w0 : World) (bl : List (Nat × Array Value × TypeId)) (lo hi : Int) (e : Ending) (w' : World) : Prop :=
  ∃ b : Int, e = .returned (.int .i64 b) ∧ (lo ≤ b ∧ b ≤ hi) ∧ Dr B k v xs n w0 bl w'
def BoolD (B k : Nat) (v : Value) (xs : List Int) (n : Nat) (w0 : World) (bl : List (Nat × Array Value × TypeId)) (e : Ending) (w' : World) : Prop :=
  ∃ b : Bool, e = .returned (.bool b) ∧ Dr B k v xs n w0 bl w'
def AmD (B k : Nat) (v : Value) (xs : List Int) (n : Nat) (w0 : World) (bl : List (Nat × Array Value × TypeId)) (L : List Int) (e : Ending) (w' : World) : Prop :=
  ∃ b : Int, e = .returned (.int .i64 b) ∧ b ∈ L ∧ Dr B k v xs n w0 bl w'
section
variable {B k n : Nat} {v : Value} {xs : List Int} {w0 w : World} {bl : List (Nat × Array Value × TypeId)}
theorem d_pick (d : Dr B k v xs n w0 bl w) (hn : n ≤ 900000) (m : Int) (hm : 0 ≤ m ∧ m ≤ 1000000) :
    Calls Tryz.prog 73 #[.pointer (some ⟨k, 0, none⟩), .int .i64 m] w (NumD B k v xs (n + 2) w0 bl 0 (if m ≤ 1 then 0 else m - 1)) :=
  (c_pick B k v xs n hn m hm w d.cur).mono fun _ _ ⟨b, h1, h2, h3, h4, h5⟩ => ⟨b, h1, ⟨h2, h3⟩, d.go h4 h5⟩
theorem d_one (d : Dr B k v xs n w0 bl w) (hn : n ≤ 900000) (m : Int) (hm : 0 ≤ m ∧ m ≤ 1000000) :
    Calls Tryz.prog 41 #[.pointer (some ⟨k, 0, none⟩), .int .i64 m] w (BoolD B k v xs (n + 2) w0 bl) :=
  (c_one B k v xs n hn m hm w d.cur).mono fun _ _ ⟨b, h1, h4, h5⟩ => ⟨b, h1, d.go h4 h5⟩
theorem d_among (d : Dr B k v xs n w0 bl w) (hn : n ≤ 900000) (L : List Int) (hL : 1 ≤ L.length ∧ L.length ≤ 200) :
    Calls Tryz.prog 43 #[.pointer (some ⟨k, 0, none⟩), .slice (some ⟨w.heap.size, 0, none⟩) L.length L.length] (w.alloc (.cells (L.map (Value.int .i64)).toArray 3)) (AmD B k v xs (n + 2) w0 bl L) := by
  have hk := d.cur.2.1
  exact (c_among B k v xs n hn L hL w.heap.size (by omega) _ (d.skip _).cur (Blk.new w _ _)).mono fun _ _ ⟨b, h1, h2, h4, h5⟩ => ⟨b, h2, h1, (d.skip _).go h4 h5⟩
end
end Go.Proofs.YtgjdgcmmlfmhmaaGreatDoor

/- DrC -/
namespace Go.Proofs.YtgjdgcmmlfmhmaaGreatDoor
open Go.RowKit

section
variable {B k n : Nat} {v : Value} {xs : List Int} {w0 w : World} {bl : List (Nat × Array Value × TypeId)}
theorem d_primeOf (d : Dr B k v xs n w0 bl w) (hn : n ≤ 800000) : Calls Tryz.prog 96 #[.pointer (some ⟨k, 0, none⟩)] w (NumD B k v xs (n + 4) w0 bl (-7) 1009) := by
  go_enter Tryz.func96, Tryz.ntmps96
  go_wp2_with fail
  refine (d_among d (by omega) [0, 1, 4, 91, 1009, -7] (by simp)).mono ?_
  rintro e w2 ⟨x, rfl, hx, d2⟩
  go_wp2_with fail
  refine (d_among d2 (by omega) [2, 3, 5, 7, 11, 13, 17, 31, 97, 101, 991, 997, x] (by simp)).mono ?_
  rintro e w4 ⟨y, rfl, hy, d4⟩
  have hx' : -7 ≤ x ∧ x ≤ 1009 := by simp at hx; omega
  have hy' : -7 ≤ y ∧ y ≤ 1009 := by simp at hy; omega
  go_wp2
  go_ret
  exact ⟨y, rfl, hy', d4⟩
/-- a curve, drawn -/
def CurveD (B k : Nat) (v : Value) (xs : List Int) (n : Nat) (w0 : World) (bl : List (Nat × Array Value × TypeId)) (q : Int → Int → Prop) (e : Ending) (w' : World) : Prop :=
  ∃ a b : Int, e = .returned (.agg #[.int .i64 a, .int .i64 b]) ∧ q a b ∧ Dr B k v xs n w0 bl w'
set_option maxHeartbeats 1000000 in
theorem d_curve (d : Dr B k v xs n w0 bl w) (hn : n ≤ 700000) : Calls Tryz.prog 75 #[.pointer (some ⟨k, 0, none⟩)] w (CurveD B k v xs (n + 30) w0 bl (fun a b => curveB a b = true)) := by
  have d1 := d.alloc #[.int .i64 0, .int .i64 0] 24
  go_enter Tryz.func75, Tryz.ntmps75
  go_upto_region 1 with (fail)
  generalize w.alloc _ = W at d1 ⊢
  generalize w.heap.size = S at d1 ⊢
  go_wp2_with fail
  refine (d_pick d1 (by omega) 41 (by omega)).mono ?_
  rintro e w2 ⟨x2, rfl, h2, d2⟩
  go_wp2_with fail
  refine (d_pick d2 (by omega) 2001 (by omega)).mono ?_
  rintro e w3 ⟨x3, rfl, h3, d3⟩
  go_wp2_with fail
  refine (d_among d3 (by omega) [-16, -1, 0, 1, -2, -7, -25, 4, x2 - 20, x3 - 1000] (by simp)).mono ?_
  rintro e w4 ⟨a, rfl, h4, d4⟩
  go_wp2_with fail
  refine (d_pick d4 (by omega) 41 (by omega)).mono ?_
  rintro e w5 ⟨x5, rfl, h5, d5⟩
  go_wp2_with fail
  refine (d_pick d5 (by omega) 20001 (by omega)).mono ?_
  rintro e w6 ⟨x6, rfl, h6, d6⟩
  go_wp2_with fail
  refine (d_among d6 (by omega) [16, 0, 0, 1, -1, 10, 36, x5 - 20, x6 - 10000] (by simp)).mono ?_
  rintro e w7 ⟨b, rfl, h7, d7⟩
  have d8 := d7.alloc #[.int .i64 a, .int .i64 b] 24
  clear d1 d2 d3 d4 d5 d6
  go_wp2_with fail
  refine (d_one d8 (by omega) 8 (by omega)).mono ?_
  rintro e w9 ⟨q, rfl, d9⟩
  clear d8
  go_upto_if 24 with (fail)
  generalize w7.heap.size = E at d9 ⊢
  go_cut [] from 4 (fun wc => ∃ a b : Int, Dr B k v xs (n + 20) w0 ((E, #[.int .i64 a, .int .i64 b], 24) :: (S, #[.int .i64 0, .int .i64 0], 24) :: bl) wc)
  case first =>
    cases q
    · go_wp2
      go_meet
      case rel => exact ⟨_, _, d9.le (by omega)⟩
    · go_wp2_with fail
      refine (d_pick d9 (by omega) 21 (by omega)).mono ?_
      rintro e w2 ⟨x2, rfl, h2, d2⟩
      go_wp2_with fail
      refine (d_pick d2 (by omega) 21 (by omega)).mono ?_
      rintro e w3 ⟨x3, rfl, h3, d3⟩
      have c0 := d3.head.cell 0
      have c1 := d3.head.cell 1
      have z0 := d3.head.frozen 0
      have z1 := d3.head.frozen 1
      simp only [List.getElem?_toArray, List.getElem?_cons_zero, List.getElem?_cons_succ] at c0 c1
      go_wp2
      go_meet
      case rel => exact ⟨_, _, ((d3.set 0 _).set 1 _).le (by omega)⟩
  case rest =>
    obtain ⟨a1, b1, d10⟩ := hcut
    clear d9 h4 h7
    go_wp2_with fail
    refine (d_one d10 (by omega) 16 (by omega)).mono ?_
    rintro e w11 ⟨q, rfl, d11⟩
    clear d10
    go_upto_if 35 with (fail)
    go_cut [] from 4 (fun wc => ∃ a b : Int, Dr B k v xs (n + 26) w0 ((E, #[.int .i64 a, .int .i64 b], 24) :: (S, #[.int .i64 0, .int .i64 0], 24) :: bl) wc)
    case first =>
      cases q
      · go_wp2
        go_meet
        case rel => exact ⟨_, _, d11.le (by omega)⟩
      · go_wp2_with fail
        refine (d_among d11 (by omega) [-1000, 1000] (by simp)).mono ?_
        rintro e w2 ⟨x2, rfl, h2, d2⟩
        go_wp2_with fail
        refine (d_among d2 (by omega) [-10000, 10000] (by simp)).mono ?_
        rintro e w3 ⟨x3, rfl, h3, d3⟩
        have c0 := d3.head.cell 0
        have c1 := d3.head.cell 1
        have z0 := d3.head.frozen 0
        have z1 := d3.head.frozen 1
        simp only [List.getElem?_toArray, List.getElem?_cons_zero, List.getElem?_cons_succ] at c0 c1
        go_wp2
        go_meet
        case rel => exact ⟨_, _, ((d3.set 0 _).set 1 _).le (by omega)⟩
    case rest =>
      obtain ⟨a2, b2, d12⟩ := hcut
      clear d11
      have c0 := d12.head.cell 0
      have c1 := d12.head.cell 1
      have y0 := d12.swap.head.cell 0
      have y1 := d12.swap.head.cell 1
      simp only [List.getElem?_toArray, List.getElem?_cons_zero, List.getElem?_cons_succ] at c0 c1 y0 y1
      go_wp2_with fail
      have HG := Lib.hid (fun W => c_ecGood a2 b2 W)
      refine (HG.out _).mono ?_
      rintro e w13 ⟨rfl, hb13⟩
      have d13 := d12.below hb13
      clear d12 c0 c1 y0 y1 HG
      have c0 := d13.head.cell 0
      have c1 := d13.head.cell 1
      have y0 := d13.swap.head.cell 0
      have y1 := d13.swap.head.cell 1
      have z0 := d13.swap.head.frozen 0
      have z1 := d13.swap.head.frozen 1
      simp only [List.getElem?_toArray, List.getElem?_cons_zero, List.getElem?_cons_succ] at c0 c1 y0 y1
      cases hq : curveB a2 b2
      · have d14 := (d13.swap.set 0 (.int .i64 (-16))).set 1 (.int .i64 16)
        go_wp2
        generalize (w13.setCell _ _).setCell _ _ = w14 at d14 ⊢
        have q0 := d14.head.cell 0
        have q1 := d14.head.cell 1
        simp only [List.setIfInBounds_toArray, List.set_cons_zero, List.set_cons_succ, List.getElem?_toArray, List.getElem?_cons_zero, List.getElem?_cons_succ] at q0 q1
        refine bodyPost_ret (v := .agg #[.int .i64 (-16), .int .i64 16]) (by simp [results, Tryz.results75, go_sem, q0, q1]) rfl ?_
        exact ⟨_, _, rfl, by decide, d14.tail.tail.le (by omega)⟩
      · have d14 := (d13.swap.set 0 (.int .i64 a2)).set 1 (.int .i64 b2)
        go_wp2
        generalize (w13.setCell _ _).setCell _ _ = w14 at d14 ⊢
        have q0 := d14.head.cell 0
        have q1 := d14.head.cell 1
        simp only [List.setIfInBounds_toArray, List.set_cons_zero, List.set_cons_succ, List.getElem?_toArray, List.getElem?_cons_zero, List.getElem?_cons_succ] at q0 q1
        refine bodyPost_ret (v := .agg #[.int .i64 a2, .int .i64 b2]) (by simp [results, Tryz.results75, go_sem, q0, q1]) rfl ?_
        exact ⟨_, _, rfl, hq, d14.tail.tail.le (by omega)⟩
end
end Go.Proofs.YtgjdgcmmlfmhmaaGreatDoor

/- DrA -/
namespace Go.Proofs.YtgjdgcmmlfmhmaaGreatDoor
open Go.RowKit

section
variable {B k n : Nat} {v : Value} {xs : List Int} {w0 w : World} {bl : List (Nat × Array Value × TypeId)}
def In64 (a b : Int) : Prop := (-9223372036854775808 ≤ a ∧ a ≤ 9223372036854775807) ∧ (-9223372036854775808 ≤ b ∧ b ≤ 9223372036854775807)
theorem in64_of {a b : Int} (h : curveB a b = true) : In64 a b := by
  unfold curveB at h
  simp only [Bool.and_eq_true] at h
  have h1 := inB_true h.1.1
  have h2 := inB_true h.1.2
  unfold In64
  omega
set_option maxHeartbeats 1000000 in
theorem d_anyCurve (d : Dr B k v xs n w0 bl w) (hn : n ≤ 600000) : Calls Tryz.prog 42 #[.pointer (some ⟨k, 0, none⟩)] w (CurveD B k v xs (n + 40) w0 bl In64) := by
  have d1 := d.alloc #[.int .i64 0, .int .i64 0] 24
  go_enter Tryz.func42, Tryz.ntmps42
  go_upto_region 1 with (fail)
  generalize w.alloc _ = W at d1 ⊢
  generalize w.heap.size = S at d1 ⊢
  go_wp2_with fail
  refine (d_curve d1 (by omega)).mono ?_
  rintro e w2 ⟨a, b, rfl, hab, d2⟩
  have d3 := d2.alloc #[.int .i64 a, .int .i64 b] 24
  have hi := in64_of hab
  clear d1 d2 hab
  go_wp2_with fail
  generalize w2.alloc _ = W3 at d3 ⊢
  generalize w2.heap.size = E at d3 ⊢
  refine (d_pick d3 (by omega) 30 (by omega)).mono ?_
  rintro e w4 ⟨x, rfl, hx, d4⟩
  clear d3
  by_cases h0 : x = 0
  · subst h0
    go_wp2_with fail
    refine (d_among d4 (by omega) [-1001, -1000, 1000, 1001, -9223372036854775808] (by simp)).mono ?_
    rintro e w5 ⟨y, rfl, hy, d5⟩
    have hy' : -9223372036854775808 ≤ y ∧ y ≤ 9223372036854775807 := by simp at hy; omega
    obtain ⟨c0, _, z0, _⟩ := d5.two
    have d6 := d5.s0 (.int .i64 y)
    go_upto_region 9 with (fail)
    generalize w5.setCell _ _ = W5 at d6 ⊢
    have e2 := d6.swap.s01 (.int .i64 y) (.int .i64 b)
    obtain ⟨c0, c1, _, _⟩ := d6.two
    obtain ⟨y0, y1, z0, z1⟩ := d6.swap.two
    go_wp2
    generalize (World.setCell (World.setCell _ _ _) _ _) = w6 at e2 ⊢
    obtain ⟨q0, q1, _, _⟩ := e2.two
    refine bodyPost_ret (v := .agg #[.int .i64 y, .int .i64 b]) (by simp [results, Tryz.results42, go_sem, q0, q1]) rfl ?_
    exact ⟨_, _, rfl, ⟨hy', hi.2⟩, e2.tail.tail.le (by omega)⟩
  · by_cases h1 : x = 1
    · subst h1
      go_wp2_with fail
      refine (d_among d4 (by omega) [-10001, -10000, 10000, 10001, 9223372036854775807] (by simp)).mono ?_
      rintro e w5 ⟨y, rfl, hy, d5⟩
      have hy' : -9223372036854775808 ≤ y ∧ y ≤ 9223372036854775807 := by simp at hy; omega
      obtain ⟨_, c1, _, z1⟩ := d5.two
      have d6 := d5.s1 (.int .i64 y)
      go_upto_region 9 with (fail)
      generalize w5.setCell _ _ = W5 at d6 ⊢
      have e2 := d6.swap.s01 (.int .i64 a) (.int .i64 y)
      obtain ⟨c0, c1, _, _⟩ := d6.two
      obtain ⟨y0, y1, z0, z1⟩ := d6.swap.two
      go_wp2
      generalize (World.setCell (World.setCell _ _ _) _ _) = w6 at e2 ⊢
      obtain ⟨q0, q1, _, _⟩ := e2.two
      refine bodyPost_ret (v := .agg #[.int .i64 a, .int .i64 y]) (by simp [results, Tryz.results42, go_sem, q0, q1]) rfl ?_
      exact ⟨_, _, rfl, ⟨hi.1, hy'⟩, e2.tail.tail.le (by omega)⟩
    · by_cases h2 : x = 2
      · subst h2
        go_wp2_with fail
        refine (d_among d4 (by omega) [0, -3, -12] (by simp)).mono ?_
        rintro e w5 ⟨y, rfl, hy, d5⟩
        go_wp2_with fail
        refine (d_among d5 (by omega) [0, 2, 16] (by simp)).mono ?_
        rintro e w6 ⟨z, rfl, hz, d6⟩
        have hy' : -9223372036854775808 ≤ y ∧ y ≤ 9223372036854775807 := by simp at hy; omega
        have hz' : -9223372036854775808 ≤ z ∧ z ≤ 9223372036854775807 := by simp at hz; omega
        obtain ⟨c0, c1, z0, z1⟩ := d6.two
        have d7 := d6.s01 (.int .i64 y) (.int .i64 z)
        go_upto_region 9 with (fail)
        generalize (w6.setCell _ _).setCell _ _ = W6 at d7 ⊢
        have e2 := d7.swap.s01 (.int .i64 y) (.int .i64 z)
        obtain ⟨c0, c1, _, _⟩ := d7.two
        obtain ⟨y0, y1, z0, z1⟩ := d7.swap.two
        go_wp2
        generalize (World.setCell (World.setCell _ _ _) _ _) = w6 at e2 ⊢
        obtain ⟨q0, q1, _, _⟩ := e2.two
        refine bodyPost_ret (v := .agg #[.int .i64 y, .int .i64 z]) (by simp [results, Tryz.results42, go_sem, q0, q1]) rfl ?_
        exact ⟨_, _, rfl, ⟨hy', hz'⟩, e2.tail.tail.le (by omega)⟩
      · have e2 := d4.swap.s01 (.int .i64 a) (.int .i64 b)
        obtain ⟨c0, c1, _, _⟩ := d4.two
        obtain ⟨y0, y1, z0, z1⟩ := d4.swap.two
        go_wp2
        generalize (World.setCell (World.setCell _ _ _) _ _) = w6 at e2 ⊢
        obtain ⟨q0, q1, _, _⟩ := e2.two
        refine bodyPost_ret (v := .agg #[.int .i64 a, .int .i64 b]) (by simp [results, Tryz.results42, go_sem, q0, q1]) rfl ?_
        exact ⟨_, _, rfl, hi, e2.tail.tail.le (by omega)⟩
end
end Go.Proofs.YtgjdgcmmlfmhmaaGreatDoor

/- DrP -/
namespace Go.Proofs.YtgjdgcmmlfmhmaaGreatDoor
open Go.RowKit

section
variable {B k n : Nat} {v : Value} {xs : List Int} {w0 w : World} {bl : List (Nat × Array Value × TypeId)}
/-- a curve and a point with E = 1, drawn -/
def PointedD (B k : Nat) (v : Value) (xs : List Int) (n : Nat) (w0 : World) (bl : List (Nat × Array Value × TypeId)) (e : Ending) (w' : World) : Prop :=
  ∃ a b x y : Int, e = .returned (.tuple #[.agg #[.int .i64 a, .int .i64 b], .agg #[.int .i64 x, .int .i64 y, .int .i64 1]]) ∧ (curveB a b = true ∧ (-50 ≤ x ∧ x ≤ 50) ∧ (-50 ≤ y ∧ y ≤ 50)) ∧ Dr B k v xs n w0 bl w'
set_option maxHeartbeats 4000000 in
theorem d_pointed (d : Dr B k v xs n w0 bl w) (hn : n ≤ 600000) : Calls Tryz.prog 40 #[.pointer (some ⟨k, 0, none⟩)] w (PointedD B k v xs (n + 20) w0 bl) := by
  have d1 := (d.alloc #[.int .i64 0, .int .i64 0] 24).alloc #[.int .i64 0, .int .i64 0, .int .i64 0] 65
  go_enter Tryz.func40, Tryz.ntmps40
  go_upto_region 1 with (fail)
  generalize (w.alloc _).alloc _ = W at d1 ⊢
  rw [World.size_alloc] at d1
  have hne : ¬ (w.heap.size + 1 = w.heap.size) := by omega
  have hne' : ¬ (w.heap.size = w.heap.size + 1) := by omega
  generalize w.heap.size + 1 = S' at d1 hne hne' ⊢
  generalize w.heap.size = S at d1 hne hne' ⊢
  go_wp2_with fail
  refine (d_pick d1 (by omega) 6 (by omega)).mono ?_
  rintro e w2 ⟨x, rfl, hx, d2⟩
  clear d1
  by_cases h0 : x = 0
  · subst h0
    have d3 := (d2.alloc #[.int .i64 0, .int .i64 4, .int .i64 0, .int .i64 1, .int .i64 4, .int .i64 0, .int .i64 (-1), .int .i64 0, .int .i64 (-43), .int .i64 166, .int .i64 0, .int .i64 (-432)] 24).alloc
      #[.int .i64 0, .int .i64 2, .int .i64 1, .int .i64 2, .int .i64 3, .int .i64 1, .int .i64 2, .int .i64 4, .int .i64 1, .int .i64 1, .int .i64 0, .int .i64 1, .int .i64 3, .int .i64 8, .int .i64 1, .int .i64 12, .int .i64 36, .int .i64 1] 65
    rw [World.size_alloc] at d3
    go_upto_region 5 with (fail)
    generalize (w2.alloc _).alloc _ = W3 at d3 ⊢
    generalize w2.heap.size + 1 = g2 at d3 ⊢
    generalize w2.heap.size = g1 at d3 ⊢
    go_wp2_with fail
    refine (d_pick d3 (by omega) 6 (by omega)).mono ?_
    rintro e w4 ⟨i, rfl, hi, d4⟩
    simp only [show ¬ ((6 : Int) ≤ 1) by omega, if_false] at hi
    have kP := d4.head
    have kC := d4.swap.head
    have n1 : ¬ (g2 = S) := fun e => (List.pairwise_cons.1 d4.dif).1 (S, #[.int .i64 0, .int .i64 0], 24) (by simp) e
    have n2 : ¬ (g2 = S') := fun e => (List.pairwise_cons.1 d4.dif).1 (S', #[.int .i64 0, .int .i64 0, .int .i64 0], 65) (by simp) e
    have n3 : ¬ (g1 = S) := fun e => (List.pairwise_cons.1 d4.swap.dif).1 (S, #[.int .i64 0, .int .i64 0], 24) (by simp) e
    have n4 : ¬ (g1 = S') := fun e => (List.pairwise_cons.1 d4.swap.dif).1 (S', #[.int .i64 0, .int .i64 0, .int .i64 0], 65) (by simp) e
    have n5 : ¬ (S = g2) := fun e => n1 e.symm
    have n6 : ¬ (S' = g2) := fun e => n2 e.symm
    have n7 : ¬ (S = g1) := fun e => n3 e.symm
    have n8 : ¬ (S' = g1) := fun e => n4 e.symm
    have d5 := d4.tail.tail
    have lP := kP.lt
    have lC := kC.lt
    clear d3 d2
    rcases (by omega : i = 0 ∨ i = 1 ∨ i = 2 ∨ i = 3 ∨ i = 4 ∨ i = 5) with rfl | rfl | rfl | rfl | rfl | rfl
    · have i0 : w4.cell? ⟨g1, 0, none⟩ = some (.int .i64 0) := kC.cell 0
      have i1 : w4.cell? ⟨g1, 1, none⟩ = some (.int .i64 4) := kC.cell 1
      have i2 : w4.cell? ⟨g2, 0, none⟩ = some (.int .i64 0) := kP.cell 0
      have i3 : w4.cell? ⟨g2, 1, none⟩ = some (.int .i64 2) := kP.cell 1
      have i4 : w4.cell? ⟨g2, 2, none⟩ = some (.int .i64 1) := kP.cell 2
      clear kP kC
      obtain ⟨z0, z1, z2, z3, z4, z5⟩ := d5.three
      obtain ⟨y0, y1, y2, y3⟩ := d5.swap.two
      go_upto_region 6 with (fail)
      go_big_region
      have e2 := ((d5.swap.s01 (.int .i64 0) (.int .i64 4)).swap.s012 (.int .i64 0) (.int .i64 2) (.int .i64 1))
      generalize (World.setCell (World.setCell (World.setCell (World.setCell (World.setCell _ _ _) _ _) _ _) _ _) _ _) = w6 at e2 ⊢
      replace e2 := e2.below (Below.refl _ _).drew
      generalize w6.drew = w7 at e2 ⊢
      obtain ⟨q0, q1, q2, _⟩ := e2.three
      obtain ⟨r0, r1, _⟩ := e2.swap.two
      go_wp2
      refine bodyPost_ret (v := .tuple #[.agg #[.int .i64 0, .int .i64 4], .agg #[.int .i64 0, .int .i64 2, .int .i64 1]]) (by simp [results, Tryz.results40, go_sem, q0, q1, q2, r0, r1]) rfl ?_
      exact ⟨_, _, _, _, rfl, by decide, e2.tail.tail.le (by omega)⟩
    · have i0 : w4.cell? ⟨g1, 2, none⟩ = some (.int .i64 0) := kC.cell 2
      have i1 : w4.cell? ⟨g1, 3, none⟩ = some (.int .i64 1) := kC.cell 3
      have i2 : w4.cell? ⟨g2, 3, none⟩ = some (.int .i64 2) := kP.cell 3
      have i3 : w4.cell? ⟨g2, 4, none⟩ = some (.int .i64 3) := kP.cell 4
      have i4 : w4.cell? ⟨g2, 5, none⟩ = some (.int .i64 1) := kP.cell 5
      clear kP kC
      obtain ⟨z0, z1, z2, z3, z4, z5⟩ := d5.three
      obtain ⟨y0, y1, y2, y3⟩ := d5.swap.two
      go_upto_region 6 with (fail)
      go_big_region
      have e2 := ((d5.swap.s01 (.int .i64 0) (.int .i64 1)).swap.s012 (.int .i64 2) (.int .i64 3) (.int .i64 1))
      generalize (World.setCell (World.setCell (World.setCell (World.setCell (World.setCell _ _ _) _ _) _ _) _ _) _ _) = w6 at e2 ⊢
      replace e2 := e2.below (Below.refl _ _).drew
      generalize w6.drew = w7 at e2 ⊢
      obtain ⟨q0, q1, q2, _⟩ := e2.three
      obtain ⟨r0, r1, _⟩ := e2.swap.two
      go_wp2
      refine bodyPost_ret (v := .tuple #[.agg #[.int .i64 0, .int .i64 1], .agg #[.int .i64 2, .int .i64 3, .int .i64 1]]) (by simp [results, Tryz.results40, go_sem, q0, q1, q2, r0, r1]) rfl ?_
      exact ⟨_, _, _, _, rfl, by decide, e2.tail.tail.le (by omega)⟩
    · have i0 : w4.cell? ⟨g1, 4, none⟩ = some (.int .i64 4) := kC.cell 4
      have i1 : w4.cell? ⟨g1, 5, none⟩ = some (.int .i64 0) := kC.cell 5
      have i2 : w4.cell? ⟨g2, 6, none⟩ = some (.int .i64 2) := kP.cell 6
      have i3 : w4.cell? ⟨g2, 7, none⟩ = some (.int .i64 4) := kP.cell 7
      have i4 : w4.cell? ⟨g2, 8, none⟩ = some (.int .i64 1) := kP.cell 8
      clear kP kC
      obtain ⟨z0, z1, z2, z3, z4, z5⟩ := d5.three
      obtain ⟨y0, y1, y2, y3⟩ := d5.swap.two
      go_upto_region 6 with (fail)
      go_big_region
      have e2 := ((d5.swap.s01 (.int .i64 4) (.int .i64 0)).swap.s012 (.int .i64 2) (.int .i64 4) (.int .i64 1))
      generalize (World.setCell (World.setCell (World.setCell (World.setCell (World.setCell _ _ _) _ _) _ _) _ _) _ _) = w6 at e2 ⊢
      replace e2 := e2.below (Below.refl _ _).drew
      generalize w6.drew = w7 at e2 ⊢
      obtain ⟨q0, q1, q2, _⟩ := e2.three
      obtain ⟨r0, r1, _⟩ := e2.swap.two
      go_wp2
      refine bodyPost_ret (v := .tuple #[.agg #[.int .i64 4, .int .i64 0], .agg #[.int .i64 2, .int .i64 4, .int .i64 1]]) (by simp [results, Tryz.results40, go_sem, q0, q1, q2, r0, r1]) rfl ?_
      exact ⟨_, _, _, _, rfl, by decide, e2.tail.tail.le (by omega)⟩
    · have i0 : w4.cell? ⟨g1, 6, none⟩ = some (.int .i64 (-1)) := kC.cell 6
      have i1 : w4.cell? ⟨g1, 7, none⟩ = some (.int .i64 0) := kC.cell 7
      have i2 : w4.cell? ⟨g2, 9, none⟩ = some (.int .i64 1) := kP.cell 9
      have i3 : w4.cell? ⟨g2, 10, none⟩ = some (.int .i64 0) := kP.cell 10
      have i4 : w4.cell? ⟨g2, 11, none⟩ = some (.int .i64 1) := kP.cell 11
      clear kP kC
      obtain ⟨z0, z1, z2, z3, z4, z5⟩ := d5.three
      obtain ⟨y0, y1, y2, y3⟩ := d5.swap.two
      go_upto_region 6 with (fail)
      go_big_region
      have e2 := ((d5.swap.s01 (.int .i64 (-1)) (.int .i64 0)).swap.s012 (.int .i64 1) (.int .i64 0) (.int .i64 1))
      generalize (World.setCell (World.setCell (World.setCell (World.setCell (World.setCell _ _ _) _ _) _ _) _ _) _ _) = w6 at e2 ⊢
      replace e2 := e2.below (Below.refl _ _).drew
      generalize w6.drew = w7 at e2 ⊢
      obtain ⟨q0, q1, q2, _⟩ := e2.three
      obtain ⟨r0, r1, _⟩ := e2.swap.two
      go_wp2
      refine bodyPost_ret (v := .tuple #[.agg #[.int .i64 (-1), .int .i64 0], .agg #[.int .i64 1, .int .i64 0, .int .i64 1]]) (by simp [results, Tryz.results40, go_sem, q0, q1, q2, r0, r1]) rfl ?_
      exact ⟨_, _, _, _, rfl, by decide, e2.tail.tail.le (by omega)⟩
    · have i0 : w4.cell? ⟨g1, 8, none⟩ = some (.int .i64 (-43)) := kC.cell 8
      have i1 : w4.cell? ⟨g1, 9, none⟩ = some (.int .i64 166) := kC.cell 9
      have i2 : w4.cell? ⟨g2, 12, none⟩ = some (.int .i64 3) := kP.cell 12
      have i3 : w4.cell? ⟨g2, 13, none⟩ = some (.int .i64 8) := kP.cell 13
      have i4 : w4.cell? ⟨g2, 14, none⟩ = some (.int .i64 1) := kP.cell 14
      clear kP kC
      obtain ⟨z0, z1, z2, z3, z4, z5⟩ := d5.three
      obtain ⟨y0, y1, y2, y3⟩ := d5.swap.two
      go_upto_region 6 with (fail)
      go_big_region
      have e2 := ((d5.swap.s01 (.int .i64 (-43)) (.int .i64 166)).swap.s012 (.int .i64 3) (.int .i64 8) (.int .i64 1))
      generalize (World.setCell (World.setCell (World.setCell (World.setCell (World.setCell _ _ _) _ _) _ _) _ _) _ _) = w6 at e2 ⊢
      replace e2 := e2.below (Below.refl _ _).drew
      generalize w6.drew = w7 at e2 ⊢
      obtain ⟨q0, q1, q2, _⟩ := e2.three
      obtain ⟨r0, r1, _⟩ := e2.swap.two
      go_wp2
      refine bodyPost_ret (v := .tuple #[.agg #[.int .i64 (-43), .int .i64 166], .agg #[.int .i64 3, .int .i64 8, .int .i64 1]]) (by simp [results, Tryz.results40, go_sem, q0, q1, q2, r0, r1]) rfl ?_
      exact ⟨_, _, _, _, rfl, by decide, e2.tail.tail.le (by omega)⟩
    · have i0 : w4.cell? ⟨g1, 10, none⟩ = some (.int .i64 0) := kC.cell 10
      have i1 : w4.cell? ⟨g1, 11, none⟩ = some (.int .i64 (-432)) := kC.cell 11
      have i2 : w4.cell? ⟨g2, 15, none⟩ = some (.int .i64 12) := kP.cell 15
      have i3 : w4.cell? ⟨g2, 16, none⟩ = some (.int .i64 36) := kP.cell 16
      have i4 : w4.cell? ⟨g2, 17, none⟩ = some (.int .i64 1) := kP.cell 17
      clear kP kC
      obtain ⟨z0, z1, z2, z3, z4, z5⟩ := d5.three
      obtain ⟨y0, y1, y2, y3⟩ := d5.swap.two
      go_upto_region 6 with (fail)
      go_big_region
      have e2 := ((d5.swap.s01 (.int .i64 0) (.int .i64 (-432))).swap.s012 (.int .i64 12) (.int .i64 36) (.int .i64 1))
      generalize (World.setCell (World.setCell (World.setCell (World.setCell (World.setCell _ _ _) _ _) _ _) _ _) _ _) = w6 at e2 ⊢
      replace e2 := e2.below (Below.refl _ _).drew
      generalize w6.drew = w7 at e2 ⊢
      obtain ⟨q0, q1, q2, _⟩ := e2.three
      obtain ⟨r0, r1, _⟩ := e2.swap.two
      go_wp2
      refine bodyPost_ret (v := .tuple #[.agg #[.int .i64 0, .int .i64 (-432)], .agg #[.int .i64 12, .int .i64 36, .int .i64 1]]) (by simp [results, Tryz.results40, go_sem, q0, q1, q2, r0, r1]) rfl ?_
      exact ⟨_, _, _, _, rfl, by decide, e2.tail.tail.le (by omega)⟩
  · by_cases h1 : x = 1
    · subst h1
      obtain ⟨z0, z1, z2, z3, z4, z5⟩ := d2.three
      obtain ⟨y0, y1, y2, y3⟩ := d2.swap.two
      have e2 := (d2.swap.s01 (.int .i64 (-16)) (.int .i64 16)).swap.s012 (.int .i64 0) (.int .i64 4) (.int .i64 1)
      go_wp2
      generalize (World.setCell (World.setCell (World.setCell (World.setCell (World.setCell _ _ _) _ _) _ _) _ _) _ _) = w6 at e2 ⊢
      obtain ⟨q0, q1, q2, _⟩ := e2.three
      obtain ⟨r0, r1, _⟩ := e2.swap.two
      refine bodyPost_ret (v := .tuple #[.agg #[.int .i64 (-16), .int .i64 16], .agg #[.int .i64 0, .int .i64 4, .int .i64 1]]) (by simp [results, Tryz.results40, go_sem, q0, q1, q2, r0, r1]) rfl ?_
      exact ⟨_, _, _, _, rfl, by decide, e2.tail.tail.le (by omega)⟩
    · by_cases h2 : x = 2
      · subst h2
        obtain ⟨z0, z1, z2, z3, z4, z5⟩ := d2.three
        obtain ⟨y0, y1, y2, y3⟩ := d2.swap.two
        have e2 := (d2.swap.s01 (.int .i64 (-25)) (.int .i64 0)).swap.s012 (.int .i64 (-4)) (.int .i64 6) (.int .i64 1)
        go_wp2
        generalize (World.setCell (World.setCell (World.setCell (World.setCell (World.setCell _ _ _) _ _) _ _) _ _) _ _) = w6 at e2 ⊢
        obtain ⟨q0, q1, q2, _⟩ := e2.three
        obtain ⟨r0, r1, _⟩ := e2.swap.two
        refine bodyPost_ret (v := .tuple #[.agg #[.int .i64 (-25), .int .i64 0], .agg #[.int .i64 (-4), .int .i64 6, .int .i64 1]]) (by simp [results, Tryz.results40, go_sem, q0, q1, q2, r0, r1]) rfl ?_
        exact ⟨_, _, _, _, rfl, by decide, e2.tail.tail.le (by omega)⟩
      · go_wp2_with fail
        refine (d_pick d2 (by omega) 21 (by omega)).mono ?_
        rintro e w3 ⟨x3, rfl, h3, d3⟩
        go_wp2_with fail
        refine (d_pick d3 (by omega) 31 (by omega)).mono ?_
        rintro e w4 ⟨x4, rfl, h4, d4⟩
        go_wp2_with fail
        refine (d_pick d4 (by omega) 31 (by omega)).mono ?_
        rintro e w5 ⟨x5, rfl, h5, d5⟩
        simp only [show ¬ ((21 : Int) ≤ 1) by omega, show ¬ ((31 : Int) ≤ 1) by omega, if_false] at h3 h4 h5
        clear d2 d3 d4
        have bX : -10 ≤ x3 - 10 ∧ x3 - 10 ≤ 10 := by omega
        have bY : -15 ≤ x4 - 15 ∧ x4 - 15 ≤ 15 := by omega
        have bA : -15 ≤ x5 - 15 ∧ x5 - 15 ≤ 15 := by omega
        clear h3 h4 h5
        have p1 := mulb 15 15 bY bY
        have p2 := mulb 10 10 bX bX
        have p3 := mulb 100 10 p2 bX
        have p4 := mulb 15 10 bA bX
        have d6 := d5.alloc #[.int .i64 (x5 - 15), .int .i64 ((x4 - 15) * (x4 - 15) - (x3 - 10) * (x3 - 10) * (x3 - 10) - (x5 - 15) * (x3 - 10))] 24
        go_wp2_with fail
        refine (c_ecGood _ _ _).mono ?_
        rintro e w7 ⟨rfl, hb7⟩
        have d7 := d6.below hb7
        have hE : ¬ (w5.heap.size = S) := fun e => (List.pairwise_cons.1 d6.dif).1 (S, #[.int .i64 0, .int .i64 0], 24) (by simp) e
        have hE' : ¬ (w5.heap.size = S') := fun e => (List.pairwise_cons.1 d6.dif).1 (S', #[.int .i64 0, .int .i64 0, .int .i64 0], 65) (by simp) e
        have hE2 : ¬ (S = w5.heap.size) := fun e => hE e.symm
        have hE2' : ¬ (S' = w5.heap.size) := fun e => hE' e.symm
        clear d5 d6
        generalize ((x4 - 15) * (x4 - 15) - (x3 - 10) * (x3 - 10) * (x3 - 10) - (x5 - 15) * (x3 - 10)) = b at d7 ⊢
        generalize x3 - 10 = X at bX ⊢
        generalize x4 - 15 = Y at bY ⊢
        generalize x5 - 15 = a at d7 ⊢
        generalize w5.heap.size = E at *
        clear hb7 p1 p2 p3 p4 bA
        obtain ⟨c0, c1, _⟩ := d7.two
        have d8 := d7.tail
        cases hq : curveB a b
        · obtain ⟨z0, z1, z2, z3, z4, z5⟩ := d8.three
          obtain ⟨y0, y1, y2, y3⟩ := d8.swap.two
          have e2 := (d8.swap.s01 (.int .i64 (-2)) (.int .i64 1)).swap.s012 (.int .i64 0) (.int .i64 1) (.int .i64 1)
          go_wp2
          generalize (World.setCell (World.setCell (World.setCell (World.setCell (World.setCell _ _ _) _ _) _ _) _ _) _ _) = w6 at e2 ⊢
          obtain ⟨q0, q1, q2, _⟩ := e2.three
          obtain ⟨r0, r1, _⟩ := e2.swap.two
          refine bodyPost_ret (v := .tuple #[.agg #[.int .i64 (-2), .int .i64 1], .agg #[.int .i64 0, .int .i64 1, .int .i64 1]]) (by simp [results, Tryz.results40, go_sem, q0, q1, q2, r0, r1]) rfl ?_
          exact ⟨_, _, _, _, rfl, by decide, e2.tail.tail.le (by omega)⟩
        · obtain ⟨z0, z1, z2, z3, z4, z5⟩ := d8.three
          obtain ⟨y0, y1, y2, y3⟩ := d8.swap.two
          have e2 := (d8.swap.s01 (.int .i64 a) (.int .i64 b)).swap.s012 (.int .i64 X) (.int .i64 Y) (.int .i64 1)
          go_wp2
          generalize (World.setCell (World.setCell (World.setCell (World.setCell (World.setCell _ _ _) _ _) _ _) _ _) _ _) = w6 at e2 ⊢
          obtain ⟨q0, q1, q2, _⟩ := e2.three
          obtain ⟨r0, r1, _⟩ := e2.swap.two
          refine bodyPost_ret (v := .tuple #[.agg #[.int .i64 a, .int .i64 b], .agg #[.int .i64 X, .int .i64 Y, .int .i64 1]]) (by simp [results, Tryz.results40, go_sem, q0, q1, q2, r0, r1]) rfl ?_
          exact ⟨_, _, _, _, rfl, ⟨hq, by omega, by omega⟩, e2.tail.tail.le (by omega)⟩
end
end Go.Proofs.YtgjdgcmmlfmhmaaGreatDoor

/- DrD -/
namespace Go.Proofs.YtgjdgcmmlfmhmaaGreatDoor
open Go.RowKit

section
variable {B k n : Nat} {v : Value} {xs : List Int} {w0 w : World} {bl : List (Nat × Array Value × TypeId)}
theorem c_l1MostD (a b : Int) (w : World) : Calls Tryz.prog 97 #[.int .i64 a, .int .i64 b] w fun e w' => e = .returned (.int .i64 (if b < a then a else b)) ∧ w' = w := by
  by_cases h : b < a
  · rw [if_pos h]
    go_enter Tryz.func97, Tryz.ntmps97
    go_wp2
    go_ret
    exact ⟨rfl, rfl⟩
  · rw [if_neg h]
    go_enter Tryz.func97, Tryz.ntmps97
    go_wp2
    go_ret
    exact ⟨rfl, rfl⟩
theorem d_divisionNumber (d : Dr B k v xs n w0 bl w) (hn : n ≤ 800000) : Calls Tryz.prog 64 #[.pointer (some ⟨k, 0, none⟩)] w (NumD B k v xs (n + 4) w0 bl 0 41) := by
  go_enter Tryz.func64, Tryz.ntmps64
  go_wp2_with fail
  refine (d_among d (by omega) [0, 41] (by simp)).mono ?_
  rintro e w2 ⟨x, rfl, hx, d2⟩
  go_wp2_with fail
  refine (d_among d2 (by omega) [1, 2, 3, 4, 5, 6, 7, 8, 9, 12, 13, 40, x] (by simp)).mono ?_
  rintro e w4 ⟨y, rfl, hy, d4⟩
  have hx' : 0 ≤ x ∧ x ≤ 41 := by simp at hx; omega
  have hy' : 0 ≤ y ∧ y ≤ 41 := by simp at hy; omega
  go_wp2
  go_ret
  exact ⟨y, rfl, hy', d4⟩
/-- a curve, a number and a residue, drawn -/
def DividedD (B k : Nat) (v : Value) (xs : List Int) (n : Nat) (w0 : World) (bl : List (Nat × Array Value × TypeId)) (e : Ending) (w' : World) : Prop :=
  ∃ a b p x : Int, e = .returned (.tuple #[.agg #[.int .i64 a, .int .i64 b], .int .i64 p, .int .i64 x]) ∧ (In64 a b ∧ (-7 ≤ p ∧ p ≤ 1009) ∧ (-7 ≤ x ∧ x ≤ 1009)) ∧ Dr B k v xs n w0 bl w'
set_option maxHeartbeats 4000000 in
theorem d_divided (d : Dr B k v xs n w0 bl w) (hn : n ≤ 500000) : Calls Tryz.prog 63 #[.pointer (some ⟨k, 0, none⟩)] w (DividedD B k v xs (n + 200) w0 bl) := by
  have d1 := d.alloc #[.int .i64 0, .int .i64 0] 24
  go_enter Tryz.func63, Tryz.ntmps63
  go_upto_region 1 with (fail)
  generalize w.alloc _ = W at d1 ⊢
  generalize w.heap.size = S at d1 ⊢
  go_wp2_with fail
  refine (d_curve d1 (by omega)).mono ?_
  rintro e w2 ⟨a, b, rfl, hab, d2⟩
  have d3 := d2.alloc #[.int .i64 a, .int .i64 b] 24
  have hi := in64_of hab
  clear d1 d2 hab
  go_wp2_with fail
  generalize w2.alloc _ = W3 at d3 ⊢
  generalize w2.heap.size = E at d3 ⊢
  refine (d_one d3 (by omega) 3 (by omega)).mono ?_
  rintro e w4 ⟨q, rfl, d4⟩
  clear d3
  go_upto_if 11 with (fail)
  go_cut [] from 8 (fun wc => ∃ a b : Int, In64 a b ∧ Dr B k v xs (n + 60) w0 ((E, #[.int .i64 a, .int .i64 b], 24) :: (S, #[.int .i64 0, .int .i64 0], 24) :: bl) wc)
  case first =>
    cases q
    · go_wp2
      go_meet
      case rel => exact ⟨a, b, hi, d4.le (by omega)⟩
    · go_wp2_with fail
      refine (d_pointed d4 (by omega)).mono ?_
      rintro e w5 ⟨a5, b5, x5, y5, rfl, ⟨h5, _, _⟩, d5⟩
      obtain ⟨c0, c1, z0, z1⟩ := d5.two
      have d6 := d5.s01 (.int .i64 a5) (.int .i64 b5)
      go_wp2
      go_meet
      case rel => exact ⟨a5, b5, in64_of h5, d6.le (by omega)⟩
  case rest =>
    obtain ⟨a1, b1, hi1, d5⟩ := hcut
    clear d4 hi
    go_wp2_with fail
    refine (d_primeOf d5 (by omega)).mono ?_
    rintro e w6 ⟨p0, rfl, hp0, d6⟩
    go_wp2_with fail
    refine (d_among d6 (by omega) [5, 7, 11, 13, 17, 31, 97, p0] (by simp)).mono ?_
    rintro e w7 ⟨p, rfl, hp, d7⟩
    replace hp : -7 ≤ p ∧ p ≤ 1009 := by simp at hp; omega
    clear d5 d6 hp0
    go_wp2_with fail
    refine (c_l1MostD 1 p _).mono ?_
    rintro e w8 ⟨rfl, rfl⟩
    have hm : 1 ≤ (if p < 1 then 1 else p) ∧ (if p < 1 then 1 else p) ≤ 1009 := by split <;> omega
    generalize (if p < 1 then 1 else p) = m at hm ⊢
    go_wp2_with fail
    refine (d_pick d7 (by omega) m (by omega)).mono ?_
    rintro e w9 ⟨x, rfl, hx, d9⟩
    replace hx : -7 ≤ x ∧ x ≤ 1009 := by split at hx <;> omega
    clear d7 hm
    go_wp2_with fail
    refine (d_pick d9 (by omega) 24 (by omega)).mono ?_
    rintro e w10 ⟨j, rfl, hj, d10⟩
    clear d9
    by_cases h0 : j = 0
    · subst h0
      go_wp2_with fail
      refine (d_among d10 (by omega) [-1, p] (by simp)).mono ?_
      rintro e w11 ⟨y, rfl, hy, d11⟩
      replace hy : -7 ≤ y ∧ y ≤ 1009 := by simp at hy; omega
      obtain ⟨c0, c1, _, _⟩ := d11.two
      obtain ⟨y0, y1, y2, y3⟩ := d11.swap.two
      have e2 := d11.swap.s01 (.int .i64 a1) (.int .i64 b1)
      go_wp2
      generalize (World.setCell (World.setCell _ _ _) _ _) = w6 at e2 ⊢
      obtain ⟨q0, q1, _⟩ := e2.two
      refine bodyPost_ret (v := .tuple #[.agg #[.int .i64 a1, .int .i64 b1], .int .i64 p, .int .i64 y]) (by simp [results, Tryz.results63, go_sem, q0, q1]) rfl ?_
      exact ⟨_, _, _, _, rfl, ⟨hi1, hp, hy⟩, e2.tail.tail.le (by omega)⟩
    · by_cases h1 : j = 1
      · subst h1
        go_wp2_with fail
        refine (d_anyCurve d10 (by omega)).mono ?_
        rintro e w11 ⟨a2, b2, rfl, hi2, d11⟩
        obtain ⟨z0, z1, z2, z3⟩ := d11.two
        have d12 := d11.s01 (.int .i64 a2) (.int .i64 b2)
        go_upto_region 11 with (fail)
        generalize (w11.setCell _ _).setCell _ _ = W6 at d12 ⊢
        obtain ⟨c0, c1, _, _⟩ := d12.two
        obtain ⟨y0, y1, y2, y3⟩ := d12.swap.two
        have e2 := d12.swap.s01 (.int .i64 a2) (.int .i64 b2)
        go_wp2
        generalize (World.setCell (World.setCell _ _ _) _ _) = w6 at e2 ⊢
        obtain ⟨q0, q1, _⟩ := e2.two
        refine bodyPost_ret (v := .tuple #[.agg #[.int .i64 a2, .int .i64 b2], .int .i64 p, .int .i64 x]) (by simp [results, Tryz.results63, go_sem, q0, q1]) rfl ?_
        exact ⟨_, _, _, _, rfl, ⟨hi2, hp, hx⟩, e2.tail.tail.le (by omega)⟩
      · obtain ⟨c0, c1, _, _⟩ := d10.two
        obtain ⟨y0, y1, y2, y3⟩ := d10.swap.two
        have e2 := d10.swap.s01 (.int .i64 a1) (.int .i64 b1)
        go_wp2
        generalize (World.setCell (World.setCell _ _ _) _ _) = w6 at e2 ⊢
        obtain ⟨q0, q1, _⟩ := e2.two
        refine bodyPost_ret (v := .tuple #[.agg #[.int .i64 a1, .int .i64 b1], .int .i64 p, .int .i64 x]) (by simp [results, Tryz.results63, go_sem, q0, q1]) rfl ?_
        exact ⟨_, _, _, _, rfl, ⟨hi1, hp, hx⟩, e2.tail.tail.le (by omega)⟩
end
end Go.Proofs.YtgjdgcmmlfmhmaaGreatDoor

/- DrV -/
namespace Go.Proofs.YtgjdgcmmlfmhmaaGreatDoor
open Go.RowKit

section
variable {B k n : Nat} {v : Value} {xs : List Int} {w0 w : World} {bl : List (Nat × Array Value × TypeId)}
/-- a curve and three numbers, drawn by a function -/
def DivModP (w : World) (e : Ending) (w' : World) : Prop :=
  ∃ a b p x n : Int, e = .returned (.tuple #[.agg #[.int .i64 a, .int .i64 b], .int .i64 p, .int .i64 x, .int .i64 n]) ∧ (In64 a b ∧ (-7 ≤ p ∧ p ≤ 1009) ∧ (-7 ≤ x ∧ x ≤ 1009) ∧ (0 ≤ n ∧ n ≤ 41)) ∧ Below w.heap.size w w'
set_option maxHeartbeats 1000000 in
theorem d_drawDivMod (v : Value) (xs : List Int) (w : World) (h : RdB w w.heap.size v xs) : Calls Tryz.prog 25 #[v] w (DivModP w) := by
  have d1 := Dr.make1 h #[.int .i64 0, .int .i64 0] 24
  obtain ⟨a0, cap, rfl, _⟩ := h
  go_enter Tryz.func25, Tryz.ntmps25
  go_wp2_with fail
  generalize (w.alloc _).alloc _ = W0 at d1 ⊢
  generalize hk : w.heap.size + 1 = k at d1 ⊢
  have hlk : w.heap.size ≤ k := by omega
  refine (d_divided d1 (by omega)).mono ?_
  rintro e w2 ⟨a, b, p, x, rfl, ⟨hab, hp, hx⟩, d2⟩
  have d3 := d2.alloc #[.int .i64 a, .int .i64 b] 24
  clear d1 d2
  go_upto_region 3 with (fail)
  have hl := d3.head.lt
  have hl2 := d3.swap.head.lt
  generalize w2.alloc _ = W at d3 hl hl2 ⊢
  generalize w2.heap.size = E at d3 hl ⊢
  have hS : w.heap.size ≤ w.heap.size := Nat.le_refl _
  generalize hSe : w.heap.size = S at d3 hl2 ⊢
  have hEk : E ∉ [k, S] := by
    have h1 := (d3.far _ (List.mem_cons_self ..)).1
    have h2 := (List.pairwise_cons.1 d3.dif).1 _ (List.mem_cons_self ..)
    simp only at h1 h2
    simp [h1, h2]
  obtain ⟨c0, c1, _, _⟩ := d3.two
  refine wp_region_cls [k, S] (fun _ => false) (fun _ => True) (Dr S k (.slice a0 xs.length cap) xs 200 w [(S, #[.int .i64 0, .int .i64 0], 24)]) (by kernel_rfl) (d3.tail.below (Below.refl _ _).drew) ?_
  apply wpAnyF_hd ⟨W.drew, (Over.refl _ _).drew, d3.tail.below (Below.refl _ _).drew⟩ [true, true, true, true] 5 (fun _ _ h hb => h.below hb) (fun _ _ => trivial) (by kernel_rfl) (by kernel_rfl) (by kernel_rfl) (by kernel_rfl) (by simp)
  · intro E hE hEN hEn; (repeat (first | (refine wpHL_take ?_; go_big_quiet_step (fail); refine wpQuiet_nil ?_) | refine wpHL_skip ?_)); exact wpHL_end rfl
  refine wpAnyF_ready [4] 4 (by kernel_rfl) (by kernel_rfl) (by simp) (AllF.cons ?_ AllF.nil)
  refine stepC_calle (some 23) (fun y => fun w' => (∃ m : Int, y = .int .i64 m ∧ 0 ≤ m ∧ m ≤ 41) ∧ Dr S k (.slice a0 xs.length cap) xs 204 w [(S, #[.int .i64 0, .int .i64 0], 24)] w') (by rfl) (by rfl) (by rfl) (fun _ => by go_simp) (fun y => fun _ _ h hb => ⟨h.1, h.2.below hb⟩) (fun w' hO hD => (d_divisionNumber (Dr.start hD.cur) (by omega)).mono fun e w2 ⟨m, h1, h2, h3⟩ => ⟨.int .i64 m, h1, h3.ovr.sub (by simp), ⟨m, rfl, h2⟩, hD.go h3.cur h3.ovr⟩) (fun y hne => ?_)
  simp only [Act.put, List.setIfInBounds_toArray, List.set_cons_succ, List.set_cons_zero]
  refine wpAnyF_ready [5] 3 (by kernel_rfl) (by kernel_rfl) (by simp) (AllF.cons ?_ AllF.nil)
  refine stepC_store (v := .agg #[.int .i64 a, .int .i64 b]) (S) (#[.int .i64 0, .int .i64 0]) (fun w' => (∃ m : Int, y = .int .i64 m ∧ 0 ≤ m ∧ m ≤ 41) ∧ Dr S k (.slice a0 xs.length cap) xs 204 w [(S, #[.int .i64 a, .int .i64 b], 24)] w') (by rfl) (by rfl) (by rfl) (by rfl) (by rfl) (by rfl) (fun _ => by go_simp) (by rfl) (by simp [Value.cells, one1]) (.inr (by simp)) (fun _ hd => hd.2.head) (fun _ _ h hb => ⟨h.1, h.2.below hb⟩) (fun _ _ hd ho hb => ⟨hd.1, hd.2.stored ho hb⟩) (fun hne => ?_)
  try simp only [Value.cells]
  apply wpAnyF_hd hne [false, false, false, false, false, false, true, true, true] 0 (fun _ _ h hb => ⟨h.1, h.2.below hb⟩) (fun _ _ => trivial) (by kernel_rfl) (by kernel_rfl) (by kernel_rfl) (by kernel_rfl) (by simp)
  · intro E hE hEN hEn; (repeat (first | (refine wpHL_take ?_; go_big_quiet_step (fail); refine wpQuiet_nil ?_) | refine wpHL_skip ?_)); exact wpHL_end rfl
  refine wpAnyF_done (by kernel_rfl) (fun Wz hOz hDz => NoPanic.normal ?_) _
  try dsimp only
  obtain ⟨⟨m, rfl, hm⟩, d5⟩ := hDz
  obtain ⟨q0, q1, _⟩ := d5.two
  subst hSe
  go_wp2
  refine bodyPost_ret (v := .tuple #[.agg #[.int .i64 a, .int .i64 b], .int .i64 p, .int .i64 x, .int .i64 m]) (by simp [results, Tryz.results25, go_sem, q0, q1]) rfl ?_
  exact ⟨_, _, _, _, _, rfl, ⟨hab, hp, hx, hm⟩, d5.out⟩
theorem d_drawMult (v : Value) (xs : List Int) (w : World) (h : RdB w w.heap.size v xs) : Calls Tryz.prog 4 #[v] w (DivModP w) := by
  have hb0 : Below w.heap.size w (w.alloc (.cells #[.int .i64 0, .int .i64 0] 24)) := (Below.refl _ _).alloc (Nat.le_refl _) _
  have kC := Blk.new w #[.int .i64 0, .int .i64 0] 24
  have h1 := h.later hb0
  obtain ⟨a0, cap, rfl, _⟩ := h
  go_enter Tryz.func4, Tryz.ntmps4
  go_upto_region 1 with (fail)
  generalize w.alloc _ = W at *
  go_wp2_with fail
  refine (d_drawDivMod _ xs W h1).mono ?_
  rintro e w1 ⟨a, b, p, x, n, rfl, hh, hb1⟩
  have k1 := kC.next hb1
  have hB := below_step hb1 hb0.size hb0
  have k10 : (w1).cell? ⟨w.heap.size, 0, none⟩ = some (.int .i64 0) := k1.cell 0; have k11 : (w1).cell? ⟨w.heap.size, 1, none⟩ = some (.int .i64 0) := k1.cell 1; have k1f0 : (w1).frozen? ⟨w.heap.size, 0, none⟩ = false := k1.frozen 0; have k1f1 : (w1).frozen? ⟨w.heap.size, 1, none⟩ = false := k1.frozen 1; have k1l : w.heap.size < (w1).heap.size := k1.lt
  have k9 := (k1.set 0 (.int .i64 a)).set 1 (.int .i64 b)
  have hB9 := (hB.setCell (p := ⟨w.heap.size, 0, none⟩) (Nat.le_refl _) (.int .i64 a)).setCell (p := ⟨w.heap.size, 1, none⟩) (Nat.le_refl _) (.int .i64 b)
  go_wp2
  generalize (World.setCell (World.setCell _ _ _) _ _) = w9 at k9 hB9 ⊢
  have q0 : w9.cell? ⟨w.heap.size, 0, none⟩ = some (.int .i64 a) := k9.cell 0
  have q1 : w9.cell? ⟨w.heap.size, 1, none⟩ = some (.int .i64 b) := k9.cell 1
  refine bodyPost_ret (v := .tuple #[.agg #[.int .i64 a, .int .i64 b], .int .i64 p, .int .i64 x, .int .i64 n]) (by simp [results, Tryz.results4, go_sem, q0, q1]) rfl ?_
  exact ⟨_, _, _, _, _, rfl, hh, hB9⟩
/-- a list of numbers just laid -/
def NewL (B k : Nat) (y : Value) (L : List Int) (w : World) : Prop := ∃ r, y = .slice (some ⟨r, 0, none⟩) L.length L.length ∧ (B ≤ r ∧ k < r) ∧ Blk r (L.map (Value.int .i64)).toArray 3 w
theorem NewL.closed (B k : Nat) (y : Value) (L : List Int) : Closed (NewL B k y L) := fun _ _ ⟨r, h1, h2, h3⟩ hb => ⟨r, h1, h2, h3.next hb⟩
theorem d_amongAt {B k n r : Nat} {v : Value} {xs : List Int} {w0 w : World} {bl : List (Nat × Array Value × TypeId)} (d : Dr B k v xs n w0 bl w) (hn : n ≤ 900000) (L : List Int) (hL : 1 ≤ L.length ∧ L.length ≤ 200) (hl : NewL B k (.slice (some ⟨r, 0, none⟩) L.length L.length) L w) :
    Calls Tryz.prog 43 #[.pointer (some ⟨k, 0, none⟩), .slice (some ⟨r, 0, none⟩) L.length L.length] w fun e w' => ∃ b : Int, e = .returned (.int .i64 b) ∧ b ∈ L ∧ Over [k] w w' ∧ Dr B k v xs (n + 2) w0 bl w' := by
  obtain ⟨r', e, h1, h2⟩ := hl
  injection e with e _ _
  injection e with e
  injection e with e
  subst e
  exact (c_among B k v xs n hn L hL r (by omega) _ d.cur h2).mono fun _ _ ⟨b, h1, h2, h4, h5⟩ => ⟨b, h2, h1, h5, d.go h4 h5⟩
/-- a curve and two numbers, drawn by a function -/
def DivWholeP (w : World) (e : Ending) (w' : World) : Prop :=
  ∃ a b x n : Int, e = .returned (.tuple #[.agg #[.int .i64 a, .int .i64 b], .int .i64 x, .int .i64 n]) ∧ (In64 a b ∧ (-1001 ≤ x ∧ x ≤ 1001) ∧ (0 ≤ n ∧ n ≤ 13)) ∧ Below w.heap.size w w'
set_option maxHeartbeats 2000000 in
theorem d_drawDivWhole (v : Value) (xs : List Int) (w : World) (h : RdB w w.heap.size v xs) : Calls Tryz.prog 13 #[v] w (DivWholeP w) := by
  have d1 := Dr.make1 h #[.int .i64 0, .int .i64 0] 24
  obtain ⟨a0, cap, rfl, _⟩ := h
  go_enter Tryz.func13, Tryz.ntmps13
  go_wp2_with fail
  generalize (w.alloc _).alloc _ = W0 at d1 ⊢
  generalize hk : w.heap.size + 1 = k at d1 ⊢
  have hlk : w.heap.size ≤ k := by omega
  refine (d_pointed d1 (by omega)).mono ?_
  rintro e w2 ⟨a, b, x, y, rfl, ⟨hab, hx, _⟩, d2⟩
  have hi := in64_of hab
  have d3 := (d2.alloc #[.int .i64 a, .int .i64 b] 24).alloc #[.int .i64 x, .int .i64 y, .int .i64 1] 65
  clear d1 d2 hab
  rw [World.size_alloc] at d3
  go_upto_region 3 with (fail)
  have hS : w.heap.size ≤ w.heap.size := Nat.le_refl _
  generalize (w2.alloc _).alloc _ = W3 at d3 ⊢
  generalize w2.heap.size + 1 = PP at d3 ⊢
  generalize w2.heap.size = E at d3 ⊢
  generalize hSe : w.heap.size = S at d3 ⊢
  obtain ⟨p0, p1, p2, _⟩ := d3.three
  go_upto_region 4 with (fail)
  have d4 := d3.tail
  clear d3 p0 p1 p2
  go_wp2_with fail
  refine (d_one d4 (by omega) 3 (by omega)).mono ?_
  rintro e w4 ⟨q, rfl, d5⟩
  clear d4
  go_upto_if 20 with (fail)
  go_cut [8] from 9 (fun xv wc => ∃ a b x : Int, xv = .int .i64 x ∧ In64 a b ∧ (-1001 ≤ x ∧ x ≤ 1001) ∧ Dr S k (.slice a0 xs.length cap) xs 400 w [(E, #[.int .i64 a, .int .i64 b], 24), (S, #[.int .i64 0, .int .i64 0], 24)] wc)
  case first =>
    cases q
    · go_wp2
      go_meet
      case rel => exact ⟨a, b, x, rfl, hi, by omega, d5.le (by omega)⟩
    · go_wp2_with fail
      refine (d_anyCurve d5 (by omega)).mono ?_
      rintro e w5 ⟨a2, b2, rfl, hi2, d6⟩
      obtain ⟨z0, z1, z2, z3⟩ := d6.two
      have d7 := d6.s01 (.int .i64 a2) (.int .i64 b2)
      go_upto_region 6 with (fail)
      generalize (w5.setCell _ _).setCell _ _ = W6 at d7 ⊢
      clear d5 d6 z0 z1 z2 z3
      go_wp2_with fail
      refine (d_among d7 (by omega) [1001, -1001] (by simp)).mono ?_
      rintro e w7 ⟨m, rfl, hm, d8⟩
      go_wp2_with fail
      refine (d_among d8 (by omega) [0, 1, -2, 17, 1000, -1000, m] (by simp)).mono ?_
      rintro e w8 ⟨x2, rfl, hx2, d9⟩
      replace hm : -1001 ≤ m ∧ m ≤ 1001 := by simp at hm; omega
      replace hx2 : -1001 ≤ x2 ∧ x2 ≤ 1001 := by simp at hx2; omega
      go_wp2
      go_meet
      case rel => exact ⟨a2, b2, x2, rfl, hi2, hx2, d9.le (by omega)⟩
  case rest =>
    obtain ⟨a1, b1, x1, rfl, hi1, hx1, d6⟩ := hcut

    -- hi1: the fact about the curve's numbers, hx1: about x, d6: the cursor's fact
    go_upto_region 7 with (fail)
    have dT := d6
    have hl := dT.head.lt
    have hl2 := dT.swap.head.lt
    have hkl := dT.cur.2.1
    have hEk : E ∉ [k, S] := by
      have h1 := (dT.far _ (List.mem_cons_self ..)).1
      have h2 := (List.pairwise_cons.1 dT.dif).1 _ (List.mem_cons_self ..)
      simp only at h1 h2
      simp [h1, h2]
    obtain ⟨c0, c1, _, _⟩ := dT.two
    refine wp_region_cls [k, S] (fun _ => false) (fun _ => True) (Dr S k (.slice a0 xs.length cap) xs 400 w [(S, #[.int .i64 0, .int .i64 0], 24)]) (by kernel_rfl) (dT.tail.below (Below.refl _ _).drew) ?_
    apply wpAnyF_hd ⟨wc.drew, (Over.refl _ _).drew, dT.tail.below (Below.refl _ _).drew⟩ [true, true, true, true] 7 (fun _ _ h hb => h.below hb) (fun _ _ => trivial) (by kernel_rfl) (by kernel_rfl) (by kernel_rfl) (by kernel_rfl) (by simp)
    · intro E hE hEN hEn; (repeat (first | (refine wpHL_take ?_; go_big_quiet_step (fail); refine wpQuiet_nil ?_) | refine wpHL_skip ?_)); exact wpHL_end rfl
    refine wpAnyF_ready [4] 6 (by kernel_rfl) (by kernel_rfl) (by simp) (AllF.cons ?_ AllF.nil)
    refine stepV (some 33) (fun y4 => fun w' => NewL S k y4 [0, 13] w' ∧ Dr S k (.slice a0 xs.length cap) xs 400 w [(S, #[.int .i64 0, .int .i64 0], 24)] w') (by rfl) (by rfl) (by rfl) (fun y4 => (NewL.closed _ _ _ _).and (fun _ _ h hb => h.below hb)) (fun w' hO hD => ⟨.slice (some ⟨w'.heap.size, 0, none⟩) 2 2, w'.alloc (.cells #[.int .i64 0, .int .i64 13] 3), by go_simp, hO.alloc _, ⟨w'.heap.size, rfl, by have := hO.size; omega, Blk.new w' _ _⟩, hD.skip _⟩) (fun y4 hne => ?_)
    simp only [Act.put, List.setIfInBounds_toArray, List.set_cons_succ, List.set_cons_zero]
    obtain ⟨w4', hO4, ⟨r4, rfl, hr4, _⟩, _⟩ := id hne
    refine wpAnyF_ready [5] 5 (by kernel_rfl) (by kernel_rfl) (by simp) (AllF.cons ?_ AllF.nil)
    refine stepC_calle (some 34) (fun y5 => fun w' => (∃ m : Int, y5 = .int .i64 m ∧ 0 ≤ m ∧ m ≤ 13) ∧ Dr S k (.slice a0 xs.length cap) xs 402 w [(S, #[.int .i64 0, .int .i64 0], 24)] w') (by rfl) (by rfl) (by rfl) (fun _ => by go_simp) (fun y5 => fun _ _ h hb => ⟨h.1, h.2.below hb⟩) (fun w' hO hD => (d_amongAt hD.2 (by omega) [0, 13] (by simp) hD.1).mono fun e w2 ⟨b, h1, h2, h3, h4⟩ => ⟨.int .i64 b, h1, h3.sub (by simp), ⟨b, rfl, by simp at h2; omega⟩, h4⟩) (fun y5 hne => ?_)
    simp only [Act.put, List.setIfInBounds_toArray, List.set_cons_succ, List.set_cons_zero]
    obtain ⟨w5', hO5, ⟨m, rfl, hm⟩, _⟩ := id hne
    refine wpAnyF_ready [6] 4 (by kernel_rfl) (by kernel_rfl) (by simp) (AllF.cons ?_ AllF.nil)
    refine stepV (some 35) (fun y6 => fun w' => NewL S k y6 [1, 2, 3, 4, 5, 6, 7, 8, 12, m] w' ∧ Dr S k (.slice a0 xs.length cap) xs 402 w [(S, #[.int .i64 0, .int .i64 0], 24)] w') (by rfl) (by rfl) (by rfl) (fun y6 => (NewL.closed _ _ _ _).and (fun _ _ h hb => h.below hb)) (fun w' hO hD => ⟨.slice (some ⟨w'.heap.size, 0, none⟩) 10 10, w'.alloc (.cells #[.int .i64 1, .int .i64 2, .int .i64 3, .int .i64 4, .int .i64 5, .int .i64 6, .int .i64 7, .int .i64 8, .int .i64 12, .int .i64 m] 3), by go_simp, hO.alloc _, ⟨w'.heap.size, rfl, by have := hO.size; omega, Blk.new w' _ _⟩, hD.2.skip _⟩) (fun y6 hne => ?_)
    simp only [Act.put, List.setIfInBounds_toArray, List.set_cons_succ, List.set_cons_zero]
    obtain ⟨w6', hO6, ⟨r6, rfl, hr6, _⟩, _⟩ := id hne
    refine wpAnyF_ready [7] 3 (by kernel_rfl) (by kernel_rfl) (by simp) (AllF.cons ?_ AllF.nil)
    refine stepC_calle (some 36) (fun y => fun w' => (∃ m : Int, y = .int .i64 m ∧ 0 ≤ m ∧ m ≤ 13) ∧ Dr S k (.slice a0 xs.length cap) xs 404 w [(S, #[.int .i64 0, .int .i64 0], 24)] w') (by rfl) (by rfl) (by rfl) (fun _ => by go_simp) (fun y => fun _ _ h hb => ⟨h.1, h.2.below hb⟩) (fun w' hO hD => (d_amongAt hD.2 (by omega) [1, 2, 3, 4, 5, 6, 7, 8, 12, m] (by simp) hD.1).mono fun e w2 ⟨b, h1, h2, h3, h4⟩ => ⟨.int .i64 b, h1, h3.sub (by simp), ⟨b, rfl, by simp at h2; omega⟩, h4⟩) (fun y hne => ?_)
    simp only [Act.put, List.setIfInBounds_toArray, List.set_cons_succ, List.set_cons_zero]
    refine wpAnyF_ready [8] 2 (by kernel_rfl) (by kernel_rfl) (by simp) (AllF.cons ?_ AllF.nil)
    refine stepC_store (v := .agg #[.int .i64 a1, .int .i64 b1]) (S) (#[.int .i64 0, .int .i64 0]) (fun w' => (∃ m : Int, y = .int .i64 m ∧ 0 ≤ m ∧ m ≤ 13) ∧ Dr S k (.slice a0 xs.length cap) xs 404 w [(S, #[.int .i64 a1, .int .i64 b1], 24)] w') (by rfl) (by rfl) (by rfl) (by rfl) (by rfl) (by rfl) (fun _ => by go_simp) (by rfl) (by simp [Value.cells, one1]) (.inr (by simp)) (fun _ hd => hd.2.head) (fun _ _ h hb => ⟨h.1, h.2.below hb⟩) (fun _ _ hd ho hb => ⟨hd.1, hd.2.stored ho hb⟩) (fun hne => ?_)
    try simp only [Value.cells]
    apply wpAnyF_hd hne [false, false, false, false, false, false, false, false, false, true, true] 0 (fun _ _ h hb => ⟨h.1, h.2.below hb⟩) (fun _ _ => trivial) (by kernel_rfl) (by kernel_rfl) (by kernel_rfl) (by kernel_rfl) (by simp)
    · intro E hE hEN hEn; (repeat (first | (refine wpHL_take ?_; go_big_quiet_step (fail); refine wpQuiet_nil ?_) | refine wpHL_skip ?_)); exact wpHL_end rfl
    refine wpAnyF_done (by kernel_rfl) (fun Wz hOz hDz => NoPanic.normal ?_) _
    try dsimp only
    obtain ⟨⟨m', rfl, hm'⟩, d5⟩ := hDz
    obtain ⟨q0, q1, _⟩ := d5.two
    subst hSe
    go_wp2
    refine bodyPost_ret (v := .tuple #[.agg #[.int .i64 a1, .int .i64 b1], .int .i64 x1, .int .i64 m']) (by simp [results, Tryz.results13, go_sem, q0, q1]) rfl ?_
    exact ⟨_, _, _, _, rfl, ⟨hi1, hx1, hm'⟩, d5.out⟩
end
end Go.Proofs.YtgjdgcmmlfmhmaaGreatDoor
