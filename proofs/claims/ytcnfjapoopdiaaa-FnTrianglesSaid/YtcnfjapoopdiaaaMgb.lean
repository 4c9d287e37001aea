/- Several texts joined: DrawT Dr DrJ DrT3 Fad DrT4 Stv DrT5. -/
import Derived.Test.YtcnfjapoopdiaaaDraw
import Derived.Deep.Cut
import Derived.BigRegion
import Derived.Test.YtcnfjapoopdiaaaMga
import Derived.Test.YtcnfjapoopdiaaaFac
import Derived.Test.YtcnfjapoopdiaaaChain
import Derived.Test.YtcnfjapoopdiaaaSaf
import Derived.Test.YtcnfjapoopdiaaaMge
import Derived.StillTailTactics
/- DrawT -/
namespace Go.Proofs.Ytcnfjapoopdiaaa
open Go.RowKit

/-- a cursor made anew -/
theorem Cur.new {v : Value} {xs : List Int} {w : World} (h : RdB w w.heap.size v xs) : Cur w.heap.size w.heap.size v xs 0 (w.alloc (.cells #[v, .int .i64 0, .int .u64 0] 79)) :=
  ⟨Nat.le_refl _, by simp, h.below ((Below.refl _ _).alloc (Nat.le_refl _) _) (Nat.le_refl _), 0, 0, Nat.le_refl _, by omega, by omega, Blk.new w _ _⟩
theorem below_over {w w' : World} {o : Obj} (h : Over [w.heap.size] (w.alloc o) w') : Below w.heap.size w w' :=
  h.belowGe ((Below.refl _ _).alloc (Nat.le_refl _) o) (by simp) (by simp)
def OnePost (lo hi : Int) (w : World) (e : Ending) (w' : World) : Prop := ∃ p : Int, e = .returned (.int .i64 p) ∧ lo ≤ p ∧ p ≤ hi ∧ Below w.heap.size w w'
def TwoPost (w : World) (e : Ending) (w' : World) : Prop := ∃ p n : Int, e = .returned (.tuple #[.int .i64 p, .int .i64 n]) ∧ 0 ≤ p ∧ p ≤ 37 ∧ -9223372036854775808 ≤ n ∧ n ≤ 9223372036854775807 ∧ Below w.heap.size w w'
end Go.Proofs.Ytcnfjapoopdiaaa

/- Dr -/
namespace Go.Proofs.Ytcnfjapoopdiaaa
open Go.RowKit

theorem RdB.set {w : World} {B S : Nat} {v x : Value} {xs : List Int} {o : Nat} (h : RdB w B v xs) (hS : B ≤ S) : RdB (w.setCell ⟨S, o, none⟩ x) B v xs := by
  obtain ⟨a, cap, hv, hm, hc⟩ := h
  refine ⟨a, cap, hv, hm, fun i hi => ?_⟩
  obtain ⟨g, o', ha, h1, h2, h3, h4⟩ := hc i hi
  refine ⟨g, o', ha, ?_, h2, h3, h4⟩
  exact (World.cell?_of_block (w := w) (Below.heap_setCell _ _ _ _ (by show g ≠ S; omega))).trans h1
theorem Over.sub {ex ex' : List Nat} {W w : World} (h : Over ex W w) (hs : ∀ x ∈ ex, x ∈ ex') : Over ex' W w := ⟨h.os, h.tape, h.output, h.size, fun k hk hn => h.block k hk fun hm => hn (hs k hm)⟩
/-- at world w at most n numbers were drawn at cursor k since w0; the blocks bl are new since then, and known whole -/
structure Dr (B k : Nat) (v : Value) (xs : List Int) (n : Nat) (w0 : World) (bl : List (Nat × Array Value × TypeId)) (w : World) : Prop where
  cur : Cur B k v xs n w
  ovr : Over [k] w0 w
  mem : MemL bl w
  far : ∀ b ∈ bl, b.1 ≠ k ∧ w0.heap.size ≤ b.1 ∧ B ≤ b.1
  dif : bl.Pairwise (fun a b => a.1 ≠ b.1)
section
variable {B k n : Nat} {v : Value} {xs : List Int} {w0 w w1 : World} {bl : List (Nat × Array Value × TypeId)} {S : Nat} {cs : Array Value} {T : TypeId}
theorem Dr.start (h : Cur B k v xs n w) : Dr B k v xs n w [] w := ⟨h, Over.refl _ _, (fun _ hx => (List.not_mem_nil hx).elim), (fun _ hb => (List.not_mem_nil hb).elim), List.Pairwise.nil⟩
theorem Dr.skip (d : Dr B k v xs n w0 bl w) (o : Obj) : Dr B k v xs n w0 bl (w.alloc o) :=
  ⟨d.cur.below ((Below.refl _ _).alloc (Nat.le_refl _) _), d.ovr.alloc o, fun x hx => (d.mem x hx).alloc o, d.far, d.dif⟩
theorem Dr.alloc (d : Dr B k v xs n w0 bl w) (cs : Array Value) (T : TypeId) : Dr B k v xs n w0 ((w.heap.size, cs, T) :: bl) (w.alloc (.cells cs T)) := by
  have hk := d.cur.2.1
  have hB := d.cur.1
  have hs := d.ovr.size
  refine ⟨(d.skip _).cur, (d.skip _).ovr, fun x hx => ?_, fun b hb => ?_, ?_⟩
  · rcases List.mem_cons.1 hx with rfl | hx
    · exact Blk.new w cs T
    · exact (d.skip _).mem x hx
  · rcases List.mem_cons.1 hb with rfl | hb
    · exact ⟨by show w.heap.size ≠ k; omega, hs, by show B ≤ w.heap.size; omega⟩
    · exact d.far b hb
  · refine List.pairwise_cons.2 ⟨fun b hb => ?_, d.dif⟩
    have := Blk.lt (d.mem b hb)
    show w.heap.size ≠ b.1
    omega
theorem Dr.go {m : Nat} (d : Dr B k v xs n w0 bl w) (hc : Cur B k v xs m w1) (ho : Over [k] w w1) : Dr B k v xs m w0 bl w1 :=
  ⟨hc, d.ovr.trans ho, fun x hx => (d.mem x hx).over ho (by simpa using (d.far x hx).1), d.far, d.dif⟩
theorem Dr.below (d : Dr B k v xs n w0 bl w) (hb : Below w.heap.size w w1) : Dr B k v xs n w0 bl w1 := d.go (d.cur.below hb) (.of_below hb)
theorem Dr.le {m : Nat} (d : Dr B k v xs n w0 bl w) (h : n ≤ m) : Dr B k v xs m w0 bl w := ⟨d.cur.le h, d.ovr, d.mem, d.far, d.dif⟩
theorem Dr.swap {a b : Nat × Array Value × TypeId} (d : Dr B k v xs n w0 (a :: b :: bl) w) : Dr B k v xs n w0 (b :: a :: bl) w := by
  refine ⟨d.cur, d.ovr, fun x hx => d.mem x ?_, fun x hx => d.far x ?_, ?_⟩
  · simp only [List.mem_cons] at hx ⊢; rcases hx with h | h | h <;> simp [h]
  · simp only [List.mem_cons] at hx ⊢; rcases hx with h | h | h <;> simp [h]
  · have h := d.dif
    simp only [List.pairwise_cons, List.mem_cons] at h ⊢
    refine ⟨fun x hx => ?_, fun x hx => h.1 x (.inr hx), h.2.2⟩
    rcases hx with rfl | hx
    · exact fun e => h.1 b (.inl rfl) e.symm
    · exact h.2.1 x hx
theorem Dr.tail {a : Nat × Array Value × TypeId} (d : Dr B k v xs n w0 (a :: bl) w) : Dr B k v xs n w0 bl w := ⟨d.cur, d.ovr, fun x hx => d.mem x (by simp [hx]), fun x hx => d.far x (by simp [hx]), (List.pairwise_cons.1 d.dif).2⟩
theorem Dr.head (d : Dr B k v xs n w0 ((S, cs, T) :: bl) w) : Blk S cs T w := d.mem (S, cs, T) (by simp)
theorem Dr.set (d : Dr B k v xs n w0 ((S, cs, T) :: bl) w) (o : Nat) (x : Value) : Dr B k v xs n w0 ((S, cs.setIfInBounds o x, T) :: bl) (w.setCell ⟨S, o, none⟩ x) := by
  have hf := d.far (S, cs, T) (by simp)
  have hf1 : S ≠ k := hf.1
  have hf2 : w0.heap.size ≤ S := hf.2.1
  have hf3 : B ≤ S := hf.2.2
  obtain ⟨h1, h2, h3, a, s, h4, h5, h6, h7⟩ := d.cur
  refine ⟨⟨h1, by simpa [World.setCell] using h2, h3.set hf3, a, s, h4, h5, h6, h7.far (by show k ≠ S; omega) _⟩, d.ovr.setCell (.inl hf2) x, fun y hy => ?_, fun b hb => ?_, ?_⟩
  · rcases List.mem_cons.1 hy with rfl | hy
    · exact d.head.set o x
    · refine (d.mem y (by simp [hy])).far ?_ _
      exact fun e => (List.pairwise_cons.1 d.dif).1 y hy e.symm
  · rcases List.mem_cons.1 hb with rfl | hb
    · exact hf
    · exact d.far b (by simp [hb])
  · have := List.pairwise_cons.1 d.dif
    exact List.pairwise_cons.2 ⟨fun b hb => this.1 b hb, this.2⟩
end
section
variable {B k n : Nat} {v : Value} {xs : List Int} {w0 w w1 : World} {bl : List (Nat × Array Value × TypeId)} {S : Nat} {T : TypeId} {a b c : Value}
theorem Dr.s0 (d : Dr B k v xs n w0 ((S, #[a, b], T) :: bl) w) (x : Value) : Dr B k v xs n w0 ((S, #[x, b], T) :: bl) (w.setCell ⟨S, 0, none⟩ x) := d.set 0 x
theorem Dr.s1 (d : Dr B k v xs n w0 ((S, #[a, b], T) :: bl) w) (x : Value) : Dr B k v xs n w0 ((S, #[a, x], T) :: bl) (w.setCell ⟨S, 1, none⟩ x) := d.set 1 x
theorem Dr.s01 (d : Dr B k v xs n w0 ((S, #[a, b], T) :: bl) w) (x y : Value) : Dr B k v xs n w0 ((S, #[x, y], T) :: bl) ((w.setCell ⟨S, 0, none⟩ x).setCell ⟨S, 1, none⟩ y) := (d.set 0 x).set 1 y
theorem Dr.s012 (d : Dr B k v xs n w0 ((S, #[a, b, c], T) :: bl) w) (x y z : Value) : Dr B k v xs n w0 ((S, #[x, y, z], T) :: bl) (((w.setCell ⟨S, 0, none⟩ x).setCell ⟨S, 1, none⟩ y).setCell ⟨S, 2, none⟩ z) := ((d.set 0 x).set 1 y).set 2 z
theorem Dr.two (d : Dr B k v xs n w0 ((S, #[a, b], T) :: bl) w) : w.cell? ⟨S, 0, none⟩ = some a ∧ w.cell? ⟨S, 1, none⟩ = some b ∧ w.frozen? ⟨S, 0, none⟩ = false ∧ w.frozen? ⟨S, 1, none⟩ = false := ⟨d.head.cell 0, d.head.cell 1, d.head.frozen 0, d.head.frozen 1⟩
theorem Dr.three (d : Dr B k v xs n w0 ((S, #[a, b, c], T) :: bl) w) : w.cell? ⟨S, 0, none⟩ = some a ∧ w.cell? ⟨S, 1, none⟩ = some b ∧ w.cell? ⟨S, 2, none⟩ = some c ∧ w.frozen? ⟨S, 0, none⟩ = false ∧ w.frozen? ⟨S, 1, none⟩ = false ∧ w.frozen? ⟨S, 2, none⟩ = false := ⟨d.head.cell 0, d.head.cell 1, d.head.cell 2, d.head.frozen 0, d.head.frozen 1, d.head.frozen 2⟩
theorem RdB.overS {S : Nat} (h : RdB w B v xs) (ho : Over [S] w w1) (hB : B ≤ w.heap.size) (hS : B ≤ S) : RdB w1 B v xs := h.over ho hB hS
theorem Dr.stored {S : Nat} {T : TypeId} {cs cs' : Array Value} (d : Dr B k v xs n w0 ((S, cs, T) :: bl) w) (ho : Over [S] w w1) (hb : Blk S cs' T w1) : Dr B k v xs n w0 ((S, cs', T) :: bl) w1 := by
  have hf := d.far (S, cs, T) (by simp)
  have hf1 : S ≠ k := hf.1
  have hf2 : w0.heap.size ≤ S := hf.2.1
  have hf3 : B ≤ S := hf.2.2
  have hs := ho.size
  obtain ⟨h1, h2, h3, a, s, h4, h5, h6, h7⟩ := d.cur
  refine ⟨⟨h1, Nat.lt_of_lt_of_le h2 hs, h3.over ho (by omega) hf3, a, s, h4, h5, h6, h7.over ho (by simp; omega)⟩, ?_, fun y hy => ?_, fun b hb => ?_, ?_⟩
  · exact ⟨ho.os.trans d.ovr.os, ho.tape.trans d.ovr.tape, ho.output.trans d.ovr.output, Nat.le_trans d.ovr.size ho.size, fun j hj hn => (ho.block j (Nat.lt_of_lt_of_le hj d.ovr.size) (by simp; omega)).trans (d.ovr.block j hj hn)⟩
  · rcases List.mem_cons.1 hy with rfl | hy
    · exact hb
    · exact (d.mem y (by simp [hy])).over ho (by simpa using fun e => (List.pairwise_cons.1 d.dif).1 y hy e.symm)
  · rcases List.mem_cons.1 hb with rfl | hb
    · exact hf
    · exact d.far b (by simp [hb])
  · have := List.pairwise_cons.1 d.dif
    exact List.pairwise_cons.2 ⟨fun b hb => this.1 b hb, this.2⟩
/-- what a drawing function leaves -/
theorem Dr.out (d : Dr w0.heap.size k v xs n w0 bl w) : Below w0.heap.size w0 w :=
  d.ovr.belowGe (Below.refl _ _) (Nat.le_refl _) (by have := d.cur.1; simpa using this)
/-- a cursor made anew, no block ahead of it -/
theorem Dr.make0 (h : RdB w w.heap.size v xs) : Dr w.heap.size w.heap.size v xs 0 w [] (w.alloc (.cells #[v, .int .i64 0, .int .u64 0] 79)) :=
  ⟨Cur.new h, (Over.refl _ _).alloc _, (fun _ hx => (List.not_mem_nil hx).elim), (fun _ hb => (List.not_mem_nil hb).elim), List.Pairwise.nil⟩
/-- a cursor made anew behind one block -/
theorem Dr.make1 (h : RdB w w.heap.size v xs) (cs : Array Value) (T : TypeId) : Dr w.heap.size (w.heap.size + 1) v xs 0 w [(w.heap.size, cs, T)] ((w.alloc (.cells cs T)).alloc (.cells #[v, .int .i64 0, .int .u64 0] 79)) := by
  have h1 := h.below (w1 := w.alloc (.cells cs T)) ((Below.refl _ _).alloc (Nat.le_refl _) _) (Nat.le_refl _)
  have h2 := h1.below (w1 := (w.alloc (.cells cs T)).alloc (.cells #[v, .int .i64 0, .int .u64 0] 79)) ((Below.refl _ _).alloc (Nat.le_refl _) _) (by simp)
  refine ⟨⟨by omega, by simp, h2, 0, 0, Nat.le_refl _, by omega, by omega, ?_⟩, ((Over.refl _ _).alloc _).alloc _, fun x hx => ?_, fun b hb => ?_, by simp⟩
  · have := Blk.new (w.alloc (.cells cs T)) #[v, .int .i64 0, .int .u64 0] 79
    rw [World.size_alloc] at this
    exact this
  · rw [List.mem_singleton] at hx
    subst hx
    exact (Blk.new w cs T).alloc _
  · rw [List.mem_singleton] at hb
    subst hb
    exact ⟨by show w.heap.size ≠ w.heap.size + 1; omega, Nat.le_refl _, Nat.le_refl _⟩
/-- a cursor made anew behind two blocks -/
theorem Dr.make2 (h : RdB w w.heap.size v xs) (cs cs' : Array Value) (T T' : TypeId) :
    Dr w.heap.size (w.heap.size + 1 + 1) v xs 0 w [(w.heap.size, cs, T), (w.heap.size + 1, cs', T')] (((w.alloc (.cells cs T)).alloc (.cells cs' T')).alloc (.cells #[v, .int .i64 0, .int .u64 0] 79)) := by
  have h1 := h.below (w1 := w.alloc (.cells cs T)) ((Below.refl _ _).alloc (Nat.le_refl _) _) (Nat.le_refl _)
  have h2 := h1.below (w1 := (w.alloc (.cells cs T)).alloc (.cells cs' T')) ((Below.refl _ _).alloc (Nat.le_refl _) _) (by simp)
  have h3 := h2.below (w1 := ((w.alloc (.cells cs T)).alloc (.cells cs' T')).alloc (.cells #[v, .int .i64 0, .int .u64 0] 79)) ((Below.refl _ _).alloc (Nat.le_refl _) _) (by simp; omega)
  refine ⟨⟨by omega, by simp, h3, 0, 0, Nat.le_refl _, by omega, by omega, ?_⟩, (((Over.refl _ _).alloc _).alloc _).alloc _, fun x hx => ?_, fun b hb => ?_, by simp⟩
  · have := Blk.new ((w.alloc (.cells cs T)).alloc (.cells cs' T')) #[v, .int .i64 0, .int .u64 0] 79
    rw [World.size_alloc, World.size_alloc] at this
    exact this
  · simp only [List.mem_cons, List.not_mem_nil, or_false] at hx
    rcases hx with rfl | rfl
    · exact ((Blk.new w cs T).alloc _).alloc _
    · have := (Blk.new (w.alloc (.cells cs T)) cs' T').alloc (.cells #[v, .int .i64 0, .int .u64 0] 79)
      rw [World.size_alloc] at this
      exact this
  · simp only [List.mem_cons, List.not_mem_nil, or_false] at hb
    rcases hb with rfl | rfl
    · exact ⟨by show w.heap.size ≠ w.heap.size + 1 + 1; omega, Nat.le_refl _, Nat.le_refl _⟩
    · exact ⟨by show w.heap.size + 1 ≠ w.heap.size + 1 + 1; omega, by show w.heap.size ≤ w.heap.size + 1; omega, by show w.heap.size ≤ w.heap.size + 1; omega⟩
end
/-- a number, drawn -/
def NumD (B k : Nat) (v : Value) (xs : List Int) (n : Nat) (w0 : World) (bl : List (Nat × Array Value × TypeId)) (lo hi : Int) (e : Ending) (w' : World) : Prop :=
  ∃ b : Int, e = .returned (.int .i64 b) ∧ (lo ≤ b ∧ b ≤ hi) ∧ Dr B k v xs n w0 bl w'
def BoolD (B k : Nat) (v : Value) (xs : List Int) (n : Nat) (w0 : World) (bl : List (Nat × Array Value × TypeId)) (e : Ending) (w' : World) : Prop :=
  ∃ b : Bool, e = .returned (.bool b) ∧ Dr B k v xs n w0 bl w'
def AmD (B k : Nat) (v : Value) (xs : List Int) (n : Nat) (w0 : World) (bl : List (Nat × Array Value × TypeId)) (L : List Int) (e : Ending) (w' : World) : Prop :=
  ∃ b : Int, e = .returned (.int .i64 b) ∧ b ∈ L ∧ Dr B k v xs n w0 bl w'
section
variable {B k n : Nat} {v : Value} {xs : List Int} {w0 w : World} {bl : List (Nat × Array Value × TypeId)}
theorem d_pick (d : Dr B k v xs n w0 bl w) (hn : n ≤ 900000) (m : Int) (hm : 0 ≤ m ∧ m ≤ 1000000) :
    Calls Try.prog 61 #[.pointer (some ⟨k, 0, none⟩), .int .i64 m] w (NumD B k v xs (n + 2) w0 bl 0 (if m ≤ 1 then 0 else m - 1)) :=
  (c_pick B k v xs n hn m hm w d.cur).mono fun _ _ ⟨b, h1, h2, h3, h4, h5⟩ => ⟨b, h1, ⟨h2, h3⟩, d.go h4 h5⟩
theorem d_one (d : Dr B k v xs n w0 bl w) (hn : n ≤ 900000) (m : Int) (hm : 0 ≤ m ∧ m ≤ 1000000) :
    Calls Try.prog 63 #[.pointer (some ⟨k, 0, none⟩), .int .i64 m] w (BoolD B k v xs (n + 2) w0 bl) :=
  (c_one B k v xs n hn m hm w d.cur).mono fun _ _ ⟨b, h1, h4, h5⟩ => ⟨b, h1, d.go h4 h5⟩
theorem d_among (d : Dr B k v xs n w0 bl w) (hn : n ≤ 900000) (L : List Int) (hL : 1 ≤ L.length ∧ L.length ≤ 200) :
    Calls Try.prog 62 #[.pointer (some ⟨k, 0, none⟩), .slice (some ⟨w.heap.size, 0, none⟩) L.length L.length] (w.alloc (.cells (L.map (Value.int .i64)).toArray 3)) (AmD B k v xs (n + 2) w0 bl L) := by
  have hk := d.cur.2.1
  exact (c_among B k v xs n hn L hL w.heap.size (by omega) _ (d.skip _).cur (Blk.new w _ _)).mono fun _ _ ⟨b, h1, h2, h4, h5⟩ => ⟨b, h2, h1, (d.skip _).go h4 h5⟩
end
end Go.Proofs.Ytcnfjapoopdiaaa

/- DrJ -/
namespace Go.Proofs.Ytcnfjapoopdiaaa
open Go.RowKit

section
variable {B k n : Nat} {v : Value} {xs : List Int} {w0 w : World} {bl : List (Nat × Array Value × TypeId)}
set_option maxHeartbeats 1000000 in
theorem d_areaNumber (d : Dr B k v xs n w0 bl w) (hn : n ≤ 800000) : Calls Try.prog 58 #[.pointer (some ⟨k, 0, none⟩)] w (NumD B k v xs (n + 4) w0 bl (-5) 33) := by
  go_enter Try.func58, Try.ntmps58
  go_wp2_with fail
  refine (d_among d (by omega) [0, 4, 12, 32, 33, -5] (by simp)).mono ?_
  rintro e w2 ⟨y, rfl, hy, d2⟩
  replace hy : -5 ≤ y ∧ y ≤ 33 := by simp at hy; omega
  go_wp2_with fail
  refine (d_among d2 (by omega) [5, 6, 6, 7, 1, 2, 3, 13, 14, 15, 21, 30, 31, y] (by simp)).mono ?_
  rintro e w3 ⟨z, rfl, hz, d3⟩
  replace hz : -5 ≤ z ∧ z ≤ 33 := by simp at hz; omega
  go_wp2
  refine bodyPost_ret (v := .int .i64 z) (by simp [results, Try.results58, go_sem]) rfl ?_
  exact ⟨_, rfl, hz, d3⟩
end
/-- a number, drawn by a function -/
def NumOut (w : World) (lo hi : Int) (e : Ending) (w' : World) : Prop := ∃ a : Int, e = .returned (.int .i64 a) ∧ (lo ≤ a ∧ a ≤ hi) ∧ Below w.heap.size w w'
end Go.Proofs.Ytcnfjapoopdiaaa

/- DrT3 -/
namespace Go.Proofs.Ytcnfjapoopdiaaa
open Go.RowKit

section
variable {B k n : Nat} {v : Value} {xs : List Int} {w0 w : World} {bl : List (Nat × Array Value × TypeId)}
def I64 (a : Int) : Prop := -9223372036854775808 ≤ a ∧ a ≤ 9223372036854775807
def FracD (B k : Nat) (v : Value) (xs : List Int) (n : Nat) (w0 : World) (bl : List (Nat × Array Value × TypeId)) (e : Ending) (w' : World) : Prop :=
  ∃ a b : Int, e = .returned (.agg #[.int .i64 a, .int .i64 b]) ∧ (I64 a ∧ I64 b) ∧ Dr B k v xs n w0 bl w'
set_option maxHeartbeats 2000000 in
theorem d_fraction (d : Dr B k v xs n w0 bl w) (hn : n ≤ 700000) : Calls Try.prog 101 #[.pointer (some ⟨k, 0, none⟩)] w (FracD B k v xs (n + 30) w0 bl) := by
  have d1 := d.alloc #[.int .i64 0, .int .i64 0] 25
  go_enter Try.func101, Try.ntmps101
  go_upto_region 1 with (fail)
  generalize w.alloc _ = W at d1 ⊢
  generalize w.heap.size = S at d1 ⊢
  go_wp2_with fail
  refine (d_pick d1 (by omega) 41 (by omega)).mono ?_
  rintro e w2 ⟨x2, rfl, h2, d2⟩
  go_wp2_with fail
  refine (d_pick d2 (by omega) 2001 (by omega)).mono ?_
  rintro e w3 ⟨x3, rfl, h3, d3⟩
  go_wp2_with fail
  refine (d_among d3 (by omega) [0, 1, -1, 2, 3, -5, x2 - 20, x3 - 1000, 1000000000, -1000000000] (by simp)).mono ?_
  rintro e w4 ⟨a, rfl, h4, d4⟩
  replace h4 : -1000000000 ≤ a ∧ a ≤ 1000000000 := by simp at h4; omega
  go_wp2_with fail
  refine (d_pick d4 (by omega) 20 (by omega)).mono ?_
  rintro e w5 ⟨x5, rfl, h5, d5⟩
  go_wp2_with fail
  refine (d_pick d5 (by omega) 1000 (by omega)).mono ?_
  rintro e w6 ⟨x6, rfl, h6, d6⟩
  go_wp2_with fail
  refine (d_among d6 (by omega) [1, 1, 2, 3, 4, 9, 1 + x5, 1 + x6, 1000000000, 999999999] (by simp)).mono ?_
  rintro e w7 ⟨b, rfl, h7, d7⟩
  replace h7 : 1 ≤ b ∧ b ≤ 1000000000 := by simp at h7; omega
  clear d1 d2 d3 d4 d5 d6 h2 h3 h5 h6
  go_wp2_with fail
  refine (c_frMake a b (by omega) (by omega) _).mono ?_
  rintro e w8 ⟨rfl, hb8⟩
  have d8 := d7.below hb8
  have hr : I64 (rsI (mOk a b) (mkN a b)) ∧ I64 (rsI (mOk a b) (mkD a b)) := by
    obtain ⟨_, _, m3, m4⟩ := mk_facts (n := a) (d := b) (by omega) (by omega) (by omega)
    unfold I64 rsI
    split <;> omega
  have hi : Hid (mOk a b = true → rsI (mOk a b) (mkN a b) = mkN a b) := fun h => by unfold rsI; rw [if_pos h]
  generalize rsI (mOk a b) (mkN a b) = p at *
  generalize rsI (mOk a b) (mkD a b) = q at *
  generalize mOk a b = ok at *
  have d9 := d8.alloc #[.int .i64 p, .int .i64 q] 25
  clear d7 d8 hb8 hi
  go_upto_region 2 with (fail)
  generalize w8.alloc _ = W9 at d9 ⊢
  generalize w8.heap.size = E at d9 ⊢
  cases ok
  · go_wp2_with fail
    refine (c_frInt 1 _).mono ?_
    rintro e w10 ⟨rfl, hb10⟩
    have d10 := d9.below hb10
    have h1 : I64 1 := by unfold I64; omega
    obtain ⟨y0, y1, z0, z1⟩ := (d10).swap.two
    obtain ⟨c0, c1, _, _⟩ := (d10).two
    have e2 := (d10).swap.s01 (.int .i64 1) (.int .i64 1)
    go_wp2
    generalize (World.setCell (World.setCell _ _ _) _ _) = w16 at e2 ⊢
    obtain ⟨q0, q1, _, _⟩ := e2.two
    refine bodyPost_ret (v := .agg #[.int .i64 1, .int .i64 1]) (by simp [results, Try.results101, go_sem, q0, q1]) rfl ?_
    exact ⟨_, _, rfl, ⟨h1, h1⟩, e2.tail.tail.le (by omega)⟩
  · obtain ⟨y0, y1, z0, z1⟩ := (d9).swap.two
    obtain ⟨c0, c1, _, _⟩ := (d9).two
    have e2 := (d9).swap.s01 (.int .i64 p) (.int .i64 q)
    go_wp2
    generalize (World.setCell (World.setCell _ _ _) _ _) = w16 at e2 ⊢
    obtain ⟨q0, q1, _, _⟩ := e2.two
    refine bodyPost_ret (v := .agg #[.int .i64 p, .int .i64 q]) (by simp [results, Try.results101, go_sem, q0, q1]) rfl ?_
    exact ⟨_, _, rfl, hr, e2.tail.tail.le (by omega)⟩
set_option maxHeartbeats 2000000 in
theorem d_anyFraction (d : Dr B k v xs n w0 bl w) (hn : n ≤ 600000) : Calls Try.prog 89 #[.pointer (some ⟨k, 0, none⟩)] w (FracD B k v xs (n + 60) w0 bl) := by
  have d1 := d.alloc #[.int .i64 0, .int .i64 0] 25
  go_enter Try.func89, Try.ntmps89
  go_upto_region 1 with (fail)
  generalize w.alloc _ = W at d1 ⊢
  generalize w.heap.size = S at d1 ⊢
  go_wp2_with fail
  refine (d_fraction d1 (by omega)).mono ?_
  rintro e w2 ⟨a, b, rfl, hi, d2⟩
  have d3 := d2.alloc #[.int .i64 a, .int .i64 b] 25
  clear d1 d2
  go_wp2_with fail
  generalize w2.alloc _ = W3 at d3 ⊢
  generalize w2.heap.size = E at d3 ⊢
  refine (d_pick d3 (by omega) 36 (by omega)).mono ?_
  rintro e w4 ⟨x, rfl, hx, d4⟩
  clear d3
  by_cases h0 : x = 0
  · subst h0
    go_wp2_with fail
    refine (d_among d4 (by omega) [0, -1, 1000000001] (by simp)).mono ?_
    rintro e w5 ⟨y, rfl, hy, d5⟩
    have hy' : I64 y := by unfold I64; simp at hy; omega
    obtain ⟨c0, c1, z0, z1⟩ := d5.two
    have d6 := d5.s1 (.int .i64 y)
    go_upto_region 9 with (fail)
    clear c0 c1 z0 z1
    generalize w5.setCell _ _ = W5 at d6 ⊢
    obtain ⟨y0, y1, z0, z1⟩ := (d6).swap.two
    obtain ⟨c0, c1, _, _⟩ := (d6).two
    have e2 := (d6).swap.s01 (.int .i64 a) (.int .i64 y)
    go_wp2
    generalize (World.setCell (World.setCell _ _ _) _ _) = w16 at e2 ⊢
    obtain ⟨q0, q1, _, _⟩ := e2.two
    refine bodyPost_ret (v := .agg #[.int .i64 a, .int .i64 y]) (by simp [results, Try.results89, go_sem, q0, q1]) rfl ?_
    exact ⟨_, _, rfl, ⟨hi.1, hy'⟩, e2.tail.tail.le (by omega)⟩
  · by_cases h1 : x = 1
    · subst h1
      go_wp2_with fail
      refine (d_among d4 (by omega) [1000000001, -1000000001, -9223372036854775808] (by simp)).mono ?_
      rintro e w5 ⟨y, rfl, hy, d5⟩
      have hy' : I64 y := by unfold I64; simp at hy; omega
      obtain ⟨c0, c1, z0, z1⟩ := d5.two
      have d6 := d5.s0 (.int .i64 y)
      go_upto_region 9 with (fail)
      clear c0 c1 z0 z1
      generalize w5.setCell _ _ = W5 at d6 ⊢
      obtain ⟨y0, y1, z0, z1⟩ := (d6).swap.two
      obtain ⟨c0, c1, _, _⟩ := (d6).two
      have e2 := (d6).swap.s01 (.int .i64 y) (.int .i64 b)
      go_wp2
      generalize (World.setCell (World.setCell _ _ _) _ _) = w16 at e2 ⊢
      obtain ⟨q0, q1, _, _⟩ := e2.two
      refine bodyPost_ret (v := .agg #[.int .i64 y, .int .i64 b]) (by simp [results, Try.results89, go_sem, q0, q1]) rfl ?_
      exact ⟨_, _, rfl, ⟨hy', hi.2⟩, e2.tail.tail.le (by omega)⟩
    · by_cases h2 : x = 2
      · subst h2
        go_wp2_with fail
        refine (d_among d4 (by omega) [2, 0, -6] (by simp)).mono ?_
        rintro e w5 ⟨y, rfl, hy, d5⟩
        go_wp2_with fail
        refine (d_among d5 (by omega) [2, 4, 9] (by simp)).mono ?_
        rintro e w6 ⟨z, rfl, hz, d6⟩
        have hy' : I64 y := by unfold I64; simp at hy; omega
        have hz' : I64 z := by unfold I64; simp at hz; omega
        obtain ⟨c0, c1, z0, z1⟩ := d6.two
        have d7 := d6.s01 (.int .i64 y) (.int .i64 z)
        go_upto_region 9 with (fail)
        clear c0 c1 z0 z1
        generalize (w6.setCell _ _).setCell _ _ = W6 at d7 ⊢
        obtain ⟨y0, y1, z0, z1⟩ := (d7).swap.two
        obtain ⟨c0, c1, _, _⟩ := (d7).two
        have e2 := (d7).swap.s01 (.int .i64 y) (.int .i64 z)
        go_wp2
        generalize (World.setCell (World.setCell _ _ _) _ _) = w16 at e2 ⊢
        obtain ⟨q0, q1, _, _⟩ := e2.two
        refine bodyPost_ret (v := .agg #[.int .i64 y, .int .i64 z]) (by simp [results, Try.results89, go_sem, q0, q1]) rfl ?_
        exact ⟨_, _, rfl, ⟨hy', hz'⟩, e2.tail.tail.le (by omega)⟩
      · obtain ⟨y0, y1, z0, z1⟩ := (d4).swap.two
        obtain ⟨c0, c1, _, _⟩ := (d4).two
        have e2 := (d4).swap.s01 (.int .i64 a) (.int .i64 b)
        go_wp2
        generalize (World.setCell (World.setCell _ _ _) _ _) = w16 at e2 ⊢
        obtain ⟨q0, q1, _, _⟩ := e2.two
        refine bodyPost_ret (v := .agg #[.int .i64 a, .int .i64 b]) (by simp [results, Try.results89, go_sem, q0, q1]) rfl ?_
        exact ⟨_, _, rfl, hi, e2.tail.tail.le (by omega)⟩
def Sm (a : Int) : Prop := -1000000000 ≤ a ∧ a ≤ 1000000000
theorem sm_fr {a b : Int} (h : frOk a b = true) : Sm a ∧ Sm b := by have := frOk_of h; unfold Sm; omega
theorem Sm.i64 {a : Int} (h : Sm a) : I64 a := by unfold Sm at h; unfold I64; omega
theorem Dr.six {S : Nat} {a b c d e f : Value} {T : TypeId} (h : Dr B k v xs n w0 ((S, #[a, b, c, d, e, f], T) :: bl) w) (p q r s t u : Value) : Dr B k v xs n w0 ((S, #[p, q, r, s, t, u], T) :: bl) ((((((w.setCell ⟨S, 0, none⟩ p).setCell ⟨S, 1, none⟩ q).setCell ⟨S, 2, none⟩ r).setCell ⟨S, 3, none⟩ s).setCell ⟨S, 4, none⟩ t).setCell ⟨S, 5, none⟩ u) := (((((h.set 0 p).set 1 q).set 2 r).set 3 s).set 4 t).set 5 u
theorem Dr.sixA {S : Nat} {a b c d e f : Value} {T : TypeId} (h : Dr B k v xs n w0 ((S, #[a, b, c, d, e, f], T) :: bl) w) (p q : Value) : Dr B k v xs n w0 ((S, #[p, q, c, d, e, f], T) :: bl) ((w.setCell ⟨S, 0, none⟩ p).setCell ⟨S, 1, none⟩ q) := (h.set 0 p).set 1 q
theorem Dr.sixC {S : Nat} {a b c d e f : Value} {T : TypeId} (h : Dr B k v xs n w0 ((S, #[a, b, c, d, e, f], T) :: bl) w) (p : Value) : Dr B k v xs n w0 ((S, #[a, b, c, d, p, f], T) :: bl) (w.setCell ⟨S, 4, none⟩ p) := h.set 4 p
def TriD (B k : Nat) (v : Value) (xs : List Int) (n : Nat) (w0 : World) (bl : List (Nat × Array Value × TypeId)) (e : Ending) (w' : World) : Prop :=
  ∃ p q r s t u : Int, e = .returned (.agg #[.int .i64 p, .int .i64 q, .int .i64 r, .int .i64 s, .int .i64 t, .int .i64 u]) ∧ (I64 p ∧ I64 q ∧ I64 r ∧ I64 s ∧ I64 t ∧ I64 u) ∧ Dr B k v xs n w0 bl w'
set_option maxHeartbeats 4000000 in
set_option maxRecDepth 100000 in
theorem d_triangleFor (d : Dr B k v xs n w0 bl w) (hn : n ≤ 500000) (a : Int) : Calls Try.prog 59 #[.pointer (some ⟨k, 0, none⟩), .int .i64 a] w (TriD B k v xs (n + 100) w0 bl) := by
  have d1 := d.alloc #[.int .i64 0, .int .i64 0, .int .i64 0, .int .i64 0, .int .i64 0, .int .i64 0] 27
  go_enter Try.func59, Try.ntmps59
  go_upto_region 1 with (fail)
  generalize w.alloc _ = W at d1 ⊢
  generalize w.heap.size = S at d1 ⊢
  go_wp2_with fail
  refine (c_frInt 3 _).mono ?_
  rintro e w2 ⟨rfl, hb2⟩
  replace d1 := d1.below hb2
  go_wp2_with fail
  refine (c_frInt 4 _).mono ?_
  rintro e w3 ⟨rfl, hb3⟩
  replace d1 := d1.below hb3
  go_wp2_with fail
  refine (c_frInt 5 _).mono ?_
  rintro e w4 ⟨rfl, hb4⟩
  replace d1 := d1.below hb4
  have d5 := d1.alloc #[.int .i64 3, .int .i64 1, .int .i64 4, .int .i64 1, .int .i64 5, .int .i64 1] 27
  clear hb2 hb3 hb4 d1
  go_upto_region 2 with (fail)
  generalize w4.alloc _ = W5 at d5 ⊢
  generalize w4.heap.size = E at d5 ⊢
  go_wp2_with fail
  refine (c_cnGood a _).mono ?_
  rintro e w6 ⟨rfl, hb6⟩
  replace d5 := d5.below hb6
  clear hb6
  go_upto_if 16 with (fail)
  go_cut [] from 6 (fun wc => ∃ p q r s t u : Int, (Sm p ∧ Sm q ∧ Sm r ∧ Sm s ∧ Sm t ∧ Sm u) ∧ Dr B k v xs n w0 ((E, #[.int .i64 p, .int .i64 q, .int .i64 r, .int .i64 s, .int .i64 t, .int .i64 u], 27) :: (S, #[.int .i64 0, .int .i64 0, .int .i64 0, .int .i64 0, .int .i64 0, .int .i64 0], 27) :: bl) wc)
  case first =>
    cases hg : areaB a
    · go_wp2
      go_meet
      case rel => exact ⟨3, 1, 4, 1, 5, 1, by unfold Sm; omega, d5⟩
    · have hn1 := areaB_bd hg
      have HF := Lib.hid (fun W => c_cnFirst a 100 hn1 (by omega) W)
      unfold TriPost at HF
      cases hf : ftB a 100
      · rw [hf] at HF
        obtain ⟨p, q, r, s, t, u, hV⟩ := ftV_form a 100
        rw [hV] at HF
        clear hV hf hg
        go_wp2_with fail
        refine (HF.out _).mono ?_
        rintro e w7 ⟨rfl, hb7⟩
        have d8 := (d5.below hb7).skip (.cells #[.int .i64 p, .int .i64 q, .int .i64 r, .int .i64 s, .int .i64 t, .int .i64 u] 27)
        go_wp2
        go_meet
        case rel => exact ⟨3, 1, 4, 1, 5, 1, by unfold Sm; omega, d8⟩
      · obtain ⟨p, q, r, s, t, u, hV, f1, f2, f3⟩ := ft_fr2 hn1 (by omega) hf
        rw [hf, hV] at HF
        clear hV hf hg
        go_wp2_with fail
        refine (HF.out _).mono ?_
        rintro e w7 ⟨rfl, hb7⟩
        have d8 := (d5.below hb7).alloc #[.int .i64 p, .int .i64 q, .int .i64 r, .int .i64 s, .int .i64 t, .int .i64 u] 27
        clear hb7 d5 HF
        go_upto_region 4 with (fail)
        generalize w7.alloc _ = W8 at d8 ⊢
        generalize w7.heap.size = F at d8 ⊢
        have hF := d8.head
        have hF0 : (W8).cell? ⟨F, 0, none⟩ = some (.int .i64 p) := hF.cell 0; have hF1 : (W8).cell? ⟨F, 1, none⟩ = some (.int .i64 q) := hF.cell 1; have hF2 : (W8).cell? ⟨F, 2, none⟩ = some (.int .i64 r) := hF.cell 2; have hF3 : (W8).cell? ⟨F, 3, none⟩ = some (.int .i64 s) := hF.cell 3; have hF4 : (W8).cell? ⟨F, 4, none⟩ = some (.int .i64 t) := hF.cell 4; have hF5 : (W8).cell? ⟨F, 5, none⟩ = some (.int .i64 u) := hF.cell 5; have hFl : F < (W8).heap.size := hF.lt
        have hE := d8.swap.head
        have hE0 : (W8).cell? ⟨E, 0, none⟩ = some (.int .i64 3) := hE.cell 0; have hE1 : (W8).cell? ⟨E, 1, none⟩ = some (.int .i64 1) := hE.cell 1; have hE2 : (W8).cell? ⟨E, 2, none⟩ = some (.int .i64 4) := hE.cell 2; have hE3 : (W8).cell? ⟨E, 3, none⟩ = some (.int .i64 1) := hE.cell 3; have hE4 : (W8).cell? ⟨E, 4, none⟩ = some (.int .i64 5) := hE.cell 4; have hE5 : (W8).cell? ⟨E, 5, none⟩ = some (.int .i64 1) := hE.cell 5; have hEf0 : (W8).frozen? ⟨E, 0, none⟩ = false := hE.frozen 0; have hEf1 : (W8).frozen? ⟨E, 1, none⟩ = false := hE.frozen 1; have hEf2 : (W8).frozen? ⟨E, 2, none⟩ = false := hE.frozen 2; have hEf3 : (W8).frozen? ⟨E, 3, none⟩ = false := hE.frozen 3; have hEf4 : (W8).frozen? ⟨E, 4, none⟩ = false := hE.frozen 4; have hEf5 : (W8).frozen? ⟨E, 5, none⟩ = false := hE.frozen 5; have hEl : E < (W8).heap.size := hE.lt
        have d9 := d8.swap.six (.int .i64 p) (.int .i64 q) (.int .i64 r) (.int .i64 s) (.int .i64 t) (.int .i64 u)
        go_wp2
        go_meet
        case rel => exact ⟨p, q, r, s, t, u, ⟨(sm_fr f1).1, (sm_fr f1).2, (sm_fr f2).1, (sm_fr f2).2, (sm_fr f3).1, (sm_fr f3).2⟩, d9.swap.tail⟩
  case rest =>
    obtain ⟨p, q, r, s, t, u, hs, d9⟩ := hcut
    clear d5
    go_wp2_with fail
    refine (d_one d9 (by omega) 5 (by omega)).mono ?_
    rintro e w10 ⟨b, rfl, d10⟩
    clear d9
    go_upto_if 25 with (fail)
    go_cut [] from 6 (fun wc => ∃ p q r s t u : Int, (Sm p ∧ Sm q ∧ Sm r ∧ Sm s ∧ Sm t ∧ Sm u) ∧ Dr B k v xs (n + 20) w0 ((E, #[.int .i64 p, .int .i64 q, .int .i64 r, .int .i64 s, .int .i64 t, .int .i64 u], 27) :: (S, #[.int .i64 0, .int .i64 0, .int .i64 0, .int .i64 0, .int .i64 0, .int .i64 0], 27) :: bl) wc)
    case first =>
      cases b
      · go_wp2
        go_meet
        case rel => exact ⟨p, q, r, s, t, u, hs, d10.le (by omega)⟩
      · go_wp2_with fail
        refine (d_pick d10 (by omega) 20 (by omega)).mono ?_
        rintro e w11 ⟨x, rfl, hx, d11⟩
        go_wp2_with fail
        refine (d_pick d11 (by omega) (2 + x - 1) (by omega)).mono ?_
        rintro e w12 ⟨y, rfl, hy, d12⟩
        clear d10 d11
        have HF := Lib.hid (fun W => c_sScaled a (2 + x) (1 + y) W)
        unfold TriPost at HF
        cases hf : (stB a (2 + x) (1 + y) && scB a (2 + x) (1 + y))
        · rw [hf] at HF
          obtain ⟨p', q', r', s', t', u', hV⟩ := stV_form a (2 + x) (1 + y)
          rw [hV] at HF
          clear hV hf
          go_wp2_with fail
          refine (HF.out _).mono ?_
          rintro e w7 ⟨rfl, hb7⟩
          have d8 := (d12.below hb7).skip (.cells #[.int .i64 p', .int .i64 q', .int .i64 r', .int .i64 s', .int .i64 t', .int .i64 u'] 27)
          go_wp2
          go_meet
          case rel => exact ⟨p, q, r, s, t, u, hs, d8.le (by omega)⟩
        · obtain ⟨p', q', r', s', t', u', hV, f1, f2, f3⟩ := st_fr2 hf
          rw [hf, hV] at HF
          clear hV hf
          go_wp2_with fail
          refine (HF.out _).mono ?_
          rintro e w7 ⟨rfl, hb7⟩
          have d8 := (d12.below hb7).alloc #[.int .i64 p', .int .i64 q', .int .i64 r', .int .i64 s', .int .i64 t', .int .i64 u'] 27
          clear hb7 d12 HF
          go_upto_region 9 with (fail)
          generalize w7.alloc _ = W8 at d8 ⊢
          generalize w7.heap.size = F at d8 ⊢
          have hF := d8.head
          have hF0 : (W8).cell? ⟨F, 0, none⟩ = some (.int .i64 p') := hF.cell 0; have hF1 : (W8).cell? ⟨F, 1, none⟩ = some (.int .i64 q') := hF.cell 1; have hF2 : (W8).cell? ⟨F, 2, none⟩ = some (.int .i64 r') := hF.cell 2; have hF3 : (W8).cell? ⟨F, 3, none⟩ = some (.int .i64 s') := hF.cell 3; have hF4 : (W8).cell? ⟨F, 4, none⟩ = some (.int .i64 t') := hF.cell 4; have hF5 : (W8).cell? ⟨F, 5, none⟩ = some (.int .i64 u') := hF.cell 5; have hFl : F < (W8).heap.size := hF.lt
          have hE := d8.swap.head
          have hE0 : (W8).cell? ⟨E, 0, none⟩ = some (.int .i64 p) := hE.cell 0; have hE1 : (W8).cell? ⟨E, 1, none⟩ = some (.int .i64 q) := hE.cell 1; have hE2 : (W8).cell? ⟨E, 2, none⟩ = some (.int .i64 r) := hE.cell 2; have hE3 : (W8).cell? ⟨E, 3, none⟩ = some (.int .i64 s) := hE.cell 3; have hE4 : (W8).cell? ⟨E, 4, none⟩ = some (.int .i64 t) := hE.cell 4; have hE5 : (W8).cell? ⟨E, 5, none⟩ = some (.int .i64 u) := hE.cell 5; have hEf0 : (W8).frozen? ⟨E, 0, none⟩ = false := hE.frozen 0; have hEf1 : (W8).frozen? ⟨E, 1, none⟩ = false := hE.frozen 1; have hEf2 : (W8).frozen? ⟨E, 2, none⟩ = false := hE.frozen 2; have hEf3 : (W8).frozen? ⟨E, 3, none⟩ = false := hE.frozen 3; have hEf4 : (W8).frozen? ⟨E, 4, none⟩ = false := hE.frozen 4; have hEf5 : (W8).frozen? ⟨E, 5, none⟩ = false := hE.frozen 5; have hEl : E < (W8).heap.size := hE.lt
          have d9 := d8.swap.six (.int .i64 p') (.int .i64 q') (.int .i64 r') (.int .i64 s') (.int .i64 t') (.int .i64 u')
          go_wp2
          go_meet
          case rel => exact ⟨p', q', r', s', t', u', ⟨(sm_fr f1).1, (sm_fr f1).2, (sm_fr f2).1, (sm_fr f2).2, (sm_fr f3).1, (sm_fr f3).2⟩, d9.swap.tail.le (by omega)⟩
    case rest =>
      clear d10
      obtain ⟨p, q, r, s, t, u, hs, d9⟩ := hcut
      go_wp2_with fail
      refine (d_pick d9 (by omega) 14 (by omega)).mono ?_
      rintro e w10 ⟨x, rfl, hx, d10⟩
      clear d9
      by_cases h0 : x = 0
      · subst h0
        go_wp2_with fail
        refine (d_anyFraction d10 (by omega)).mono ?_
        rintro e w11 ⟨y, z, rfl, hi, d11⟩
        have hE := d11.head
        have hE0 : (w11).cell? ⟨E, 0, none⟩ = some (.int .i64 p) := hE.cell 0; have hE1 : (w11).cell? ⟨E, 1, none⟩ = some (.int .i64 q) := hE.cell 1; have hE2 : (w11).cell? ⟨E, 2, none⟩ = some (.int .i64 r) := hE.cell 2; have hE3 : (w11).cell? ⟨E, 3, none⟩ = some (.int .i64 s) := hE.cell 3; have hE4 : (w11).cell? ⟨E, 4, none⟩ = some (.int .i64 t) := hE.cell 4; have hE5 : (w11).cell? ⟨E, 5, none⟩ = some (.int .i64 u) := hE.cell 5; have hEf0 : (w11).frozen? ⟨E, 0, none⟩ = false := hE.frozen 0; have hEf1 : (w11).frozen? ⟨E, 1, none⟩ = false := hE.frozen 1; have hEf2 : (w11).frozen? ⟨E, 2, none⟩ = false := hE.frozen 2; have hEf3 : (w11).frozen? ⟨E, 3, none⟩ = false := hE.frozen 3; have hEf4 : (w11).frozen? ⟨E, 4, none⟩ = false := hE.frozen 4; have hEf5 : (w11).frozen? ⟨E, 5, none⟩ = false := hE.frozen 5; have hEl : E < (w11).heap.size := hE.lt
        have d12 := d11.sixA (.int .i64 y) (.int .i64 z)
        go_upto_region 18 with (fail)
        clear d10 d11 hE hE0 hE1 hE2 hE3 hE4 hE5 hEf0 hEf1 hEf2 hEf3 hEf4 hEf5 hEl
        generalize (World.setCell (World.setCell _ _ _) _ _) = W12 at d12 ⊢
        have hE := (d12).head
        have hE0 : (W12).cell? ⟨E, 0, none⟩ = some (.int .i64 y) := hE.cell 0; have hE1 : (W12).cell? ⟨E, 1, none⟩ = some (.int .i64 z) := hE.cell 1; have hE2 : (W12).cell? ⟨E, 2, none⟩ = some (.int .i64 r) := hE.cell 2; have hE3 : (W12).cell? ⟨E, 3, none⟩ = some (.int .i64 s) := hE.cell 3; have hE4 : (W12).cell? ⟨E, 4, none⟩ = some (.int .i64 (t)) := hE.cell 4; have hE5 : (W12).cell? ⟨E, 5, none⟩ = some (.int .i64 u) := hE.cell 5; have hEl : E < (W12).heap.size := hE.lt
        have hS := (d12).swap.head
        have hS0 : (W12).cell? ⟨S, 0, none⟩ = some (.int .i64 0) := hS.cell 0; have hS1 : (W12).cell? ⟨S, 1, none⟩ = some (.int .i64 0) := hS.cell 1; have hS2 : (W12).cell? ⟨S, 2, none⟩ = some (.int .i64 0) := hS.cell 2; have hS3 : (W12).cell? ⟨S, 3, none⟩ = some (.int .i64 0) := hS.cell 3; have hS4 : (W12).cell? ⟨S, 4, none⟩ = some (.int .i64 0) := hS.cell 4; have hS5 : (W12).cell? ⟨S, 5, none⟩ = some (.int .i64 0) := hS.cell 5; have hSf0 : (W12).frozen? ⟨S, 0, none⟩ = false := hS.frozen 0; have hSf1 : (W12).frozen? ⟨S, 1, none⟩ = false := hS.frozen 1; have hSf2 : (W12).frozen? ⟨S, 2, none⟩ = false := hS.frozen 2; have hSf3 : (W12).frozen? ⟨S, 3, none⟩ = false := hS.frozen 3; have hSf4 : (W12).frozen? ⟨S, 4, none⟩ = false := hS.frozen 4; have hSf5 : (W12).frozen? ⟨S, 5, none⟩ = false := hS.frozen 5; have hSl : S < (W12).heap.size := hS.lt
        have d14 := (d12).swap.six (.int .i64 (y)) (.int .i64 (z)) (.int .i64 (r)) (.int .i64 (s)) (.int .i64 (t)) (.int .i64 (u))
        go_upto_region 18 with (fail)
        (repeat (first | go_skip | go_guarded | go_step))
        generalize (World.setCell (World.setCell (World.setCell (World.setCell (World.setCell (World.setCell _ _ _) _ _) _ _) _ _) _ _) _ _) = w16 at d14 ⊢
        have hQ := d14.head
        have hQ0 : (w16).cell? ⟨S, 0, none⟩ = some (.int .i64 y) := hQ.cell 0; have hQ1 : (w16).cell? ⟨S, 1, none⟩ = some (.int .i64 z) := hQ.cell 1; have hQ2 : (w16).cell? ⟨S, 2, none⟩ = some (.int .i64 r) := hQ.cell 2; have hQ3 : (w16).cell? ⟨S, 3, none⟩ = some (.int .i64 s) := hQ.cell 3; have hQ4 : (w16).cell? ⟨S, 4, none⟩ = some (.int .i64 (t)) := hQ.cell 4; have hQ5 : (w16).cell? ⟨S, 5, none⟩ = some (.int .i64 u) := hQ.cell 5; have hQl : S < (w16).heap.size := hQ.lt
        refine bodyPost_ret (v := .agg #[.int .i64 (y), .int .i64 (z), .int .i64 (r), .int .i64 (s), .int .i64 (t), .int .i64 (u)]) (by simp [results, Try.results59, go_sem, hQ0, hQ1, hQ2, hQ3, hQ4, hQ5]) rfl ?_
        exact ⟨_, _, _, _, _, _, rfl, ⟨hi.1, hi.2, hs.2.2.1.i64, hs.2.2.2.1.i64, hs.2.2.2.2.1.i64, hs.2.2.2.2.2.i64⟩, d14.tail.tail.le (by omega)⟩
      · by_cases h1 : x = 1
        · subst h1
          have hE := d10.head
          have hE0 : (w10).cell? ⟨E, 0, none⟩ = some (.int .i64 p) := hE.cell 0; have hE1 : (w10).cell? ⟨E, 1, none⟩ = some (.int .i64 q) := hE.cell 1; have hE2 : (w10).cell? ⟨E, 2, none⟩ = some (.int .i64 r) := hE.cell 2; have hE3 : (w10).cell? ⟨E, 3, none⟩ = some (.int .i64 s) := hE.cell 3; have hE4 : (w10).cell? ⟨E, 4, none⟩ = some (.int .i64 t) := hE.cell 4; have hE5 : (w10).cell? ⟨E, 5, none⟩ = some (.int .i64 u) := hE.cell 5; have hEf0 : (w10).frozen? ⟨E, 0, none⟩ = false := hE.frozen 0; have hEf1 : (w10).frozen? ⟨E, 1, none⟩ = false := hE.frozen 1; have hEf2 : (w10).frozen? ⟨E, 2, none⟩ = false := hE.frozen 2; have hEf3 : (w10).frozen? ⟨E, 3, none⟩ = false := hE.frozen 3; have hEf4 : (w10).frozen? ⟨E, 4, none⟩ = false := hE.frozen 4; have hEf5 : (w10).frozen? ⟨E, 5, none⟩ = false := hE.frozen 5; have hEl : E < (w10).heap.size := hE.lt
          have hS := d10.swap.head
          have hS0 : (w10).cell? ⟨S, 0, none⟩ = some (.int .i64 0) := hS.cell 0; have hS1 : (w10).cell? ⟨S, 1, none⟩ = some (.int .i64 0) := hS.cell 1; have hS2 : (w10).cell? ⟨S, 2, none⟩ = some (.int .i64 0) := hS.cell 2; have hS3 : (w10).cell? ⟨S, 3, none⟩ = some (.int .i64 0) := hS.cell 3; have hS4 : (w10).cell? ⟨S, 4, none⟩ = some (.int .i64 0) := hS.cell 4; have hS5 : (w10).cell? ⟨S, 5, none⟩ = some (.int .i64 0) := hS.cell 5; have hSf0 : (w10).frozen? ⟨S, 0, none⟩ = false := hS.frozen 0; have hSf1 : (w10).frozen? ⟨S, 1, none⟩ = false := hS.frozen 1; have hSf2 : (w10).frozen? ⟨S, 2, none⟩ = false := hS.frozen 2; have hSf3 : (w10).frozen? ⟨S, 3, none⟩ = false := hS.frozen 3; have hSf4 : (w10).frozen? ⟨S, 4, none⟩ = false := hS.frozen 4; have hSf5 : (w10).frozen? ⟨S, 5, none⟩ = false := hS.frozen 5; have hSl : S < (w10).heap.size := hS.lt
          have d14 := d10.swap.six (.int .i64 r) (.int .i64 s) (.int .i64 p) (.int .i64 q) (.int .i64 t) (.int .i64 u)
          go_upto_region 15 with (fail)
          (repeat (first | go_skip | go_guarded | go_step))
          generalize (World.setCell (World.setCell (World.setCell (World.setCell (World.setCell (World.setCell _ _ _) _ _) _ _) _ _) _ _) _ _) = w16 at d14 ⊢
          have hQ := d14.head
          have hQ0 : (w16).cell? ⟨S, 0, none⟩ = some (.int .i64 r) := hQ.cell 0; have hQ1 : (w16).cell? ⟨S, 1, none⟩ = some (.int .i64 s) := hQ.cell 1; have hQ2 : (w16).cell? ⟨S, 2, none⟩ = some (.int .i64 p) := hQ.cell 2; have hQ3 : (w16).cell? ⟨S, 3, none⟩ = some (.int .i64 q) := hQ.cell 3; have hQ4 : (w16).cell? ⟨S, 4, none⟩ = some (.int .i64 (t)) := hQ.cell 4; have hQ5 : (w16).cell? ⟨S, 5, none⟩ = some (.int .i64 u) := hQ.cell 5; have hQl : S < (w16).heap.size := hQ.lt
          refine bodyPost_ret (v := .agg #[.int .i64 (r), .int .i64 (s), .int .i64 (p), .int .i64 (q), .int .i64 (t), .int .i64 (u)]) (by simp [results, Try.results59, go_sem, hQ0, hQ1, hQ2, hQ3, hQ4, hQ5]) rfl ?_
          exact ⟨_, _, _, _, _, _, rfl, ⟨hs.2.2.1.i64, hs.2.2.2.1.i64, hs.1.i64, hs.2.1.i64, hs.2.2.2.2.1.i64, hs.2.2.2.2.2.i64⟩, d14.tail.tail.le (by omega)⟩
        · by_cases h2 : x = 2
          · subst h2
            have ht := hs.2.2.2.2.1
            unfold Sm at ht
            have hE := d10.head
            have hE0 : (w10).cell? ⟨E, 0, none⟩ = some (.int .i64 p) := hE.cell 0; have hE1 : (w10).cell? ⟨E, 1, none⟩ = some (.int .i64 q) := hE.cell 1; have hE2 : (w10).cell? ⟨E, 2, none⟩ = some (.int .i64 r) := hE.cell 2; have hE3 : (w10).cell? ⟨E, 3, none⟩ = some (.int .i64 s) := hE.cell 3; have hE4 : (w10).cell? ⟨E, 4, none⟩ = some (.int .i64 t) := hE.cell 4; have hE5 : (w10).cell? ⟨E, 5, none⟩ = some (.int .i64 u) := hE.cell 5; have hEf0 : (w10).frozen? ⟨E, 0, none⟩ = false := hE.frozen 0; have hEf1 : (w10).frozen? ⟨E, 1, none⟩ = false := hE.frozen 1; have hEf2 : (w10).frozen? ⟨E, 2, none⟩ = false := hE.frozen 2; have hEf3 : (w10).frozen? ⟨E, 3, none⟩ = false := hE.frozen 3; have hEf4 : (w10).frozen? ⟨E, 4, none⟩ = false := hE.frozen 4; have hEf5 : (w10).frozen? ⟨E, 5, none⟩ = false := hE.frozen 5; have hEl : E < (w10).heap.size := hE.lt
            have d12 := d10.sixC (.int .i64 (-t))
            go_upto_region 18 with (fail)
            clear d10 hE hE0 hE1 hE2 hE3 hE4 hE5 hEf0 hEf1 hEf2 hEf3 hEf4 hEf5 hEl
            generalize (World.setCell _ _ _) = W12 at d12 ⊢
            have hE := (d12).head
            have hE0 : (W12).cell? ⟨E, 0, none⟩ = some (.int .i64 p) := hE.cell 0; have hE1 : (W12).cell? ⟨E, 1, none⟩ = some (.int .i64 q) := hE.cell 1; have hE2 : (W12).cell? ⟨E, 2, none⟩ = some (.int .i64 r) := hE.cell 2; have hE3 : (W12).cell? ⟨E, 3, none⟩ = some (.int .i64 s) := hE.cell 3; have hE4 : (W12).cell? ⟨E, 4, none⟩ = some (.int .i64 (-t)) := hE.cell 4; have hE5 : (W12).cell? ⟨E, 5, none⟩ = some (.int .i64 u) := hE.cell 5; have hEl : E < (W12).heap.size := hE.lt
            have hS := (d12).swap.head
            have hS0 : (W12).cell? ⟨S, 0, none⟩ = some (.int .i64 0) := hS.cell 0; have hS1 : (W12).cell? ⟨S, 1, none⟩ = some (.int .i64 0) := hS.cell 1; have hS2 : (W12).cell? ⟨S, 2, none⟩ = some (.int .i64 0) := hS.cell 2; have hS3 : (W12).cell? ⟨S, 3, none⟩ = some (.int .i64 0) := hS.cell 3; have hS4 : (W12).cell? ⟨S, 4, none⟩ = some (.int .i64 0) := hS.cell 4; have hS5 : (W12).cell? ⟨S, 5, none⟩ = some (.int .i64 0) := hS.cell 5; have hSf0 : (W12).frozen? ⟨S, 0, none⟩ = false := hS.frozen 0; have hSf1 : (W12).frozen? ⟨S, 1, none⟩ = false := hS.frozen 1; have hSf2 : (W12).frozen? ⟨S, 2, none⟩ = false := hS.frozen 2; have hSf3 : (W12).frozen? ⟨S, 3, none⟩ = false := hS.frozen 3; have hSf4 : (W12).frozen? ⟨S, 4, none⟩ = false := hS.frozen 4; have hSf5 : (W12).frozen? ⟨S, 5, none⟩ = false := hS.frozen 5; have hSl : S < (W12).heap.size := hS.lt
            have d14 := (d12).swap.six (.int .i64 (p)) (.int .i64 (q)) (.int .i64 (r)) (.int .i64 (s)) (.int .i64 (-t)) (.int .i64 (u))
            go_upto_region 18 with (fail)
            (repeat (first | go_skip | go_guarded | go_step))
            generalize (World.setCell (World.setCell (World.setCell (World.setCell (World.setCell (World.setCell _ _ _) _ _) _ _) _ _) _ _) _ _) = w16 at d14 ⊢
            have hQ := d14.head
            have hQ0 : (w16).cell? ⟨S, 0, none⟩ = some (.int .i64 p) := hQ.cell 0; have hQ1 : (w16).cell? ⟨S, 1, none⟩ = some (.int .i64 q) := hQ.cell 1; have hQ2 : (w16).cell? ⟨S, 2, none⟩ = some (.int .i64 r) := hQ.cell 2; have hQ3 : (w16).cell? ⟨S, 3, none⟩ = some (.int .i64 s) := hQ.cell 3; have hQ4 : (w16).cell? ⟨S, 4, none⟩ = some (.int .i64 (-t)) := hQ.cell 4; have hQ5 : (w16).cell? ⟨S, 5, none⟩ = some (.int .i64 u) := hQ.cell 5; have hQl : S < (w16).heap.size := hQ.lt
            refine bodyPost_ret (v := .agg #[.int .i64 (p), .int .i64 (q), .int .i64 (r), .int .i64 (s), .int .i64 (-t), .int .i64 (u)]) (by simp [results, Try.results59, go_sem, hQ0, hQ1, hQ2, hQ3, hQ4, hQ5]) rfl ?_
            exact ⟨_, _, _, _, _, _, rfl, ⟨hs.1.i64, hs.2.1.i64, hs.2.2.1.i64, hs.2.2.2.1.i64, by unfold I64; omega, hs.2.2.2.2.2.i64⟩, d14.tail.tail.le (by omega)⟩
          · have hE := (d10).head
            have hE0 : (w10).cell? ⟨E, 0, none⟩ = some (.int .i64 p) := hE.cell 0; have hE1 : (w10).cell? ⟨E, 1, none⟩ = some (.int .i64 q) := hE.cell 1; have hE2 : (w10).cell? ⟨E, 2, none⟩ = some (.int .i64 r) := hE.cell 2; have hE3 : (w10).cell? ⟨E, 3, none⟩ = some (.int .i64 s) := hE.cell 3; have hE4 : (w10).cell? ⟨E, 4, none⟩ = some (.int .i64 (t)) := hE.cell 4; have hE5 : (w10).cell? ⟨E, 5, none⟩ = some (.int .i64 u) := hE.cell 5; have hEl : E < (w10).heap.size := hE.lt
            have hS := (d10).swap.head
            have hS0 : (w10).cell? ⟨S, 0, none⟩ = some (.int .i64 0) := hS.cell 0; have hS1 : (w10).cell? ⟨S, 1, none⟩ = some (.int .i64 0) := hS.cell 1; have hS2 : (w10).cell? ⟨S, 2, none⟩ = some (.int .i64 0) := hS.cell 2; have hS3 : (w10).cell? ⟨S, 3, none⟩ = some (.int .i64 0) := hS.cell 3; have hS4 : (w10).cell? ⟨S, 4, none⟩ = some (.int .i64 0) := hS.cell 4; have hS5 : (w10).cell? ⟨S, 5, none⟩ = some (.int .i64 0) := hS.cell 5; have hSf0 : (w10).frozen? ⟨S, 0, none⟩ = false := hS.frozen 0; have hSf1 : (w10).frozen? ⟨S, 1, none⟩ = false := hS.frozen 1; have hSf2 : (w10).frozen? ⟨S, 2, none⟩ = false := hS.frozen 2; have hSf3 : (w10).frozen? ⟨S, 3, none⟩ = false := hS.frozen 3; have hSf4 : (w10).frozen? ⟨S, 4, none⟩ = false := hS.frozen 4; have hSf5 : (w10).frozen? ⟨S, 5, none⟩ = false := hS.frozen 5; have hSl : S < (w10).heap.size := hS.lt
            have d14 := (d10).swap.six (.int .i64 (p)) (.int .i64 (q)) (.int .i64 (r)) (.int .i64 (s)) (.int .i64 (t)) (.int .i64 (u))
            go_upto_region 18 with (fail)
            (repeat (first | go_skip | go_guarded | go_step))
            generalize (World.setCell (World.setCell (World.setCell (World.setCell (World.setCell (World.setCell _ _ _) _ _) _ _) _ _) _ _) _ _) = w16 at d14 ⊢
            have hQ := d14.head
            have hQ0 : (w16).cell? ⟨S, 0, none⟩ = some (.int .i64 p) := hQ.cell 0; have hQ1 : (w16).cell? ⟨S, 1, none⟩ = some (.int .i64 q) := hQ.cell 1; have hQ2 : (w16).cell? ⟨S, 2, none⟩ = some (.int .i64 r) := hQ.cell 2; have hQ3 : (w16).cell? ⟨S, 3, none⟩ = some (.int .i64 s) := hQ.cell 3; have hQ4 : (w16).cell? ⟨S, 4, none⟩ = some (.int .i64 (t)) := hQ.cell 4; have hQ5 : (w16).cell? ⟨S, 5, none⟩ = some (.int .i64 u) := hQ.cell 5; have hQl : S < (w16).heap.size := hQ.lt
            refine bodyPost_ret (v := .agg #[.int .i64 (p), .int .i64 (q), .int .i64 (r), .int .i64 (s), .int .i64 (t), .int .i64 (u)]) (by simp [results, Try.results59, go_sem, hQ0, hQ1, hQ2, hQ3, hQ4, hQ5]) rfl ?_
            exact ⟨_, _, _, _, _, _, rfl, ⟨hs.1.i64, hs.2.1.i64, hs.2.2.1.i64, hs.2.2.2.1.i64, hs.2.2.2.2.1.i64, hs.2.2.2.2.2.i64⟩, d14.tail.tail.le (by omega)⟩
end
end Go.Proofs.Ytcnfjapoopdiaaa

/- Fad -/
namespace Go.Proofs.Ytcnfjapoopdiaaa
open Go.RowKit

def okB (n : Int) : Bool := decide ((factL n.natAbs).length ≤ 5) && (factL n.natAbs).all (fun p => decide (2 ≤ p.1) && decide (p.1 ≤ 720) && decide (1 ≤ p.2) && decide (p.2 ≤ 31)) && (List.range 6).all fun i => decide (-720 ≤ clsF ((factL n.natAbs).take i) 1) && decide (clsF ((factL n.natAbs).take i) 1 ≤ 720)
theorem okB_of {n : Int} (h : okB n = true) : (factL n.natAbs).length ≤ 5 ∧ (∀ i (hi : i < (factL n.natAbs).length), (2 ≤ (factL n.natAbs)[i].1 ∧ (factL n.natAbs)[i].1 ≤ 720) ∧ 1 ≤ (factL n.natAbs)[i].2 ∧ (factL n.natAbs)[i].2 ≤ 31) ∧
    (∀ i, i ≤ (factL n.natAbs).length → -720 ≤ clsF ((factL n.natAbs).take i) 1 ∧ clsF ((factL n.natAbs).take i) 1 ≤ 720) := by
  unfold okB at h
  simp only [Bool.and_eq_true, List.all_eq_true, decide_eq_true_eq] at h
  obtain ⟨⟨h2, h3⟩, h4⟩ := h
  refine ⟨h2, fun i hi => ?_, fun i hi => h4 i (by simp; omega)⟩
  have := h3 _ (List.getElem_mem hi)
  exact ⟨⟨this.1.1.1, this.1.1.2⟩, this.1.2, this.2⟩
theorem okB_all : ∀ u : Nat, u < 8 → (decide (1 ≤ (2 + (u : Int)) * ((2 + (u : Int)) * (2 + (u : Int)) - 1)) && decide ((2 + (u : Int)) * ((2 + (u : Int)) * (2 + (u : Int)) - 1) ≤ 720) && okB ((2 + (u : Int)) * ((2 + (u : Int)) * (2 + (u : Int)) - 1))) = true := by decide +kernel
theorem okB_at {x : Int} (h : 0 ≤ x ∧ x ≤ 7) : (1 ≤ (2 + x) * ((2 + x) * (2 + x) - 1) ∧ (2 + x) * ((2 + x) * (2 + x) - 1) ≤ 720) ∧ okB ((2 + x) * ((2 + x) * (2 + x) - 1)) = true := by
  have := okB_all x.toNat (by omega)
  rw [show ((x.toNat : Nat) : Int) = x by omega] at this
  simp only [Bool.and_eq_true, decide_eq_true_eq] at this
  exact this
set_option maxHeartbeats 1000000 in
theorem c_tcClassB (n : Int) (hb : 1 ≤ n ∧ n ≤ 720) (hk : okB n = true) (w : World) :
    Calls Try.prog 64 #[.int .i64 n] w fun e w' => e = .returned (.int .i64 (cls n)) ∧ Below w.heap.size w w' := by
  obtain ⟨hp1, hp2, hp3⟩ := okB_of hk
  have Hp2 := Lib.hid hp2
  have Hp3 := Lib.hid hp3
  have Hcl : Hid (cls n = clsF (factL n.natAbs) 1) := by show _ = _; unfold cls; rw [if_pos (by omega)]
  have Hs : Hid (signI n = 1) := by show _ = _; unfold signI; rw [if_pos (by omega)]
  clear hp2 hp3
  go_enter Try.func64, Try.ntmps64
  go_wp2_with ((go_at_call 93; refine (c_l1Sign _ _).mono ?_; rintro e w' ⟨rfl, rfl⟩))
  have Hs' := Hs.out
  rw [Hs']
  clear Hs'
  go_wp2_with ((go_at_call 72; refine (c_l1Abs _ (by omega) _).mono ?_; rintro e w' ⟨rfl, rfl⟩))
  refine (c_mdFactors _ (by omega) _).mono ?_
  rintro e w1 ⟨v, rfl, hown, hbl⟩
  obtain ⟨a, cap, rfl, hcell⟩ := hown.form
  have Hc := Lib.hid hcell
  clear hcell
  generalize hL : factL n.natAbs = L at *
  have HL := Lib.hid hL
  clear hL hown
  go_wp2
  go_loop [3, 12] (fun o i => ∃ k : Nat, k ≤ L.length ∧ i = .int .i64 k ∧ o = .int .i64 (clsF (L.take k) 1)) (fun _ i => L.length - (intOf i).toNat)
  case atStart => exact ⟨0, Nat.zero_le _, rfl, by simp [clsF]⟩
  case round =>
    obtain ⟨k, hk, rfl, rfl⟩ := hrel
    by_cases hlt : k < L.length
    · obtain ⟨g, g', rfl, hcx, hc0, hc1, hgl⟩ := Hc.out k hlt
      have h2 := Hp2.out k hlt
      have h3 := Hp3.out k (by omega)
      have h4 := Hp3.out (k + 1) (by omega)
      have HS := Lib.hid (clsF_take L 1 hlt)
      generalize hx : L[k].1 = x at hc0 h2 HS
      generalize hy : L[k].2 = y at hc1 h2 HS
      have HX := Lib.hid hx
      have HY := Lib.hid hy
      clear hx hy
      by_cases hv : y % 2 = 1
      · have hh : (y % 2 == 1) = true := by simp [hv]
        rw [if_pos hv] at HS
        have h5 : -720 ≤ clsF (L.take k) 1 * x ∧ clsF (L.take k) 1 * x ≤ 720 := by rw [← HS.out]; exact h4
        clear hv h4
        go_wp2
        go_round
        case rel => exact ⟨k + 1, by omega, by go_num, by rw [HS.out]⟩
        case measure => simp [intOf]; omega
      · have hh : (y % 2 == 1) = false := by simp [hv]
        rw [if_neg hv] at HS
        clear hv h4
        go_wp2
        go_round
        case rel => exact ⟨k + 1, by omega, by go_num, by rw [HS.out]⟩
        case measure => simp [intOf]; omega
    · go_wp2
      go_ret
      refine ⟨?_, hbl⟩
      have : L.take k = L := List.take_of_length_le (by omega)
      rw [this, Hcl.out]; rfl
end Go.Proofs.Ytcnfjapoopdiaaa

/- DrT4 -/
namespace Go.Proofs.Ytcnfjapoopdiaaa
open Go.RowKit

/-- an area number and a triangle, drawn by a function -/
def TriOut (w : World) (e : Ending) (w' : World) : Prop := ∃ a p q r s t u : Int, e = .returned (.tuple #[.int .i64 a, .agg #[.int .i64 p, .int .i64 q, .int .i64 r, .int .i64 s, .int .i64 t, .int .i64 u]]) ∧ (-5 ≤ a ∧ a ≤ 33) ∧ (I64 p ∧ I64 q ∧ I64 r ∧ I64 s ∧ I64 t ∧ I64 u) ∧ Below w.heap.size w w'
set_option maxHeartbeats 1000000 in
set_option maxRecDepth 100000 in
theorem d_drawIsTriangle (v : Value) (xs : List Int) (w : World) (h : RdB w w.heap.size v xs) : Calls Try.prog 43 #[v] w (TriOut w) := by
  have d1 := Dr.make1 h #[.int .i64 0, .int .i64 0, .int .i64 0, .int .i64 0, .int .i64 0, .int .i64 0] 27
  obtain ⟨a0, cap, rfl, _⟩ := h
  go_enter Try.func43, Try.ntmps43
  go_upto_region 2 with (fail)
  generalize (w.alloc _).alloc _ = W0 at d1 ⊢
  generalize hS : w.heap.size = S at d1 ⊢
  have HS : Hid (w.heap.size = S) := hS
  clear hS
  go_wp2_with fail
  refine (d_areaNumber d1 (by omega)).mono ?_
  rintro e w2 ⟨a, rfl, ha, d2⟩
  go_wp2_with fail
  refine (d_triangleFor d2 (by omega) a).mono ?_
  rintro e w3 ⟨p, q, r, s, t, u, rfl, hi, d3⟩
  clear d1 d2
  have hE := d3.head
  have hE0 : (w3).cell? ⟨S, 0, none⟩ = some (.int .i64 0) := hE.cell 0; have hE1 : (w3).cell? ⟨S, 1, none⟩ = some (.int .i64 0) := hE.cell 1; have hE2 : (w3).cell? ⟨S, 2, none⟩ = some (.int .i64 0) := hE.cell 2; have hE3 : (w3).cell? ⟨S, 3, none⟩ = some (.int .i64 0) := hE.cell 3; have hE4 : (w3).cell? ⟨S, 4, none⟩ = some (.int .i64 0) := hE.cell 4; have hE5 : (w3).cell? ⟨S, 5, none⟩ = some (.int .i64 0) := hE.cell 5; have hEf0 : (w3).frozen? ⟨S, 0, none⟩ = false := hE.frozen 0; have hEf1 : (w3).frozen? ⟨S, 1, none⟩ = false := hE.frozen 1; have hEf2 : (w3).frozen? ⟨S, 2, none⟩ = false := hE.frozen 2; have hEf3 : (w3).frozen? ⟨S, 3, none⟩ = false := hE.frozen 3; have hEf4 : (w3).frozen? ⟨S, 4, none⟩ = false := hE.frozen 4; have hEf5 : (w3).frozen? ⟨S, 5, none⟩ = false := hE.frozen 5; have hEl : S < (w3).heap.size := hE.lt
  have d4 := d3.six (.int .i64 p) (.int .i64 q) (.int .i64 r) (.int .i64 s) (.int .i64 t) (.int .i64 u)
  go_wp2
  generalize (World.setCell (World.setCell (World.setCell (World.setCell (World.setCell (World.setCell _ _ _) _ _) _ _) _ _) _ _) _ _) = w16 at d4 ⊢
  have hQ := d4.head
  have hQ0 : (w16).cell? ⟨S, 0, none⟩ = some (.int .i64 p) := hQ.cell 0; have hQ1 : (w16).cell? ⟨S, 1, none⟩ = some (.int .i64 q) := hQ.cell 1; have hQ2 : (w16).cell? ⟨S, 2, none⟩ = some (.int .i64 r) := hQ.cell 2; have hQ3 : (w16).cell? ⟨S, 3, none⟩ = some (.int .i64 s) := hQ.cell 3; have hQ4 : (w16).cell? ⟨S, 4, none⟩ = some (.int .i64 t) := hQ.cell 4; have hQ5 : (w16).cell? ⟨S, 5, none⟩ = some (.int .i64 u) := hQ.cell 5; have hQl : S < (w16).heap.size := hQ.lt
  refine bodyPost_ret (v := .tuple #[.int .i64 a, .agg #[.int .i64 p, .int .i64 q, .int .i64 r, .int .i64 s, .int .i64 t, .int .i64 u]]) (by simp [results, Try.results43, go_sem, hQ0, hQ1, hQ2, hQ3, hQ4, hQ5]) rfl ?_
  refine ⟨_, _, _, _, _, _, _, rfl, ha, hi, ?_⟩
  have := HS.out
  subst this
  exact d4.out
set_option maxHeartbeats 1000000 in
theorem d_drawPointOf (v : Value) (xs : List Int) (w : World) (h : RdB w w.heap.size v xs) : Calls Try.prog 9 #[v] w (TriOut w) := by
  have kS := Blk.new w #[.int .i64 0, .int .i64 0, .int .i64 0, .int .i64 0, .int .i64 0, .int .i64 0] 27
  have hb0 : Below w.heap.size w (w.alloc (.cells #[.int .i64 0, .int .i64 0, .int .i64 0, .int .i64 0, .int .i64 0, .int .i64 0] 27)) := (Below.refl _ _).alloc (Nat.le_refl _) _
  have HI := Lib.hid (d_drawIsTriangle v xs _ (h.later hb0))
  obtain ⟨a0, cap, rfl, _⟩ := h
  go_enter Try.func9, Try.ntmps9
  go_wp2_with fail
  refine HI.out.mono ?_
  rintro e w3 ⟨a, p, q, r, s, t, u, rfl, ha, hi, hb⟩
  clear HI
  have kE := kS.next hb
  have hb1 := below_step hb hb0.size hb0
  have kE0 : (w3).cell? ⟨w.heap.size, 0, none⟩ = some (.int .i64 0) := kE.cell 0; have kE1 : (w3).cell? ⟨w.heap.size, 1, none⟩ = some (.int .i64 0) := kE.cell 1; have kE2 : (w3).cell? ⟨w.heap.size, 2, none⟩ = some (.int .i64 0) := kE.cell 2; have kE3 : (w3).cell? ⟨w.heap.size, 3, none⟩ = some (.int .i64 0) := kE.cell 3; have kE4 : (w3).cell? ⟨w.heap.size, 4, none⟩ = some (.int .i64 0) := kE.cell 4; have kE5 : (w3).cell? ⟨w.heap.size, 5, none⟩ = some (.int .i64 0) := kE.cell 5; have kEf0 : (w3).frozen? ⟨w.heap.size, 0, none⟩ = false := kE.frozen 0; have kEf1 : (w3).frozen? ⟨w.heap.size, 1, none⟩ = false := kE.frozen 1; have kEf2 : (w3).frozen? ⟨w.heap.size, 2, none⟩ = false := kE.frozen 2; have kEf3 : (w3).frozen? ⟨w.heap.size, 3, none⟩ = false := kE.frozen 3; have kEf4 : (w3).frozen? ⟨w.heap.size, 4, none⟩ = false := kE.frozen 4; have kEf5 : (w3).frozen? ⟨w.heap.size, 5, none⟩ = false := kE.frozen 5; have kEl : w.heap.size < (w3).heap.size := kE.lt
  have k9 := (((((kE.set 0 (.int .i64 p)).set 1 (.int .i64 q)).set 2 (.int .i64 r)).set 3 (.int .i64 s)).set 4 (.int .i64 t)).set 5 (.int .i64 u)
  have hb9 : Below w.heap.size w ((((((w3.setCell ⟨w.heap.size, 0, none⟩ (.int .i64 p)).setCell ⟨w.heap.size, 1, none⟩ (.int .i64 q)).setCell ⟨w.heap.size, 2, none⟩ (.int .i64 r)).setCell ⟨w.heap.size, 3, none⟩ (.int .i64 s)).setCell ⟨w.heap.size, 4, none⟩ (.int .i64 t)).setCell ⟨w.heap.size, 5, none⟩ (.int .i64 u)) :=
    (((((hb1.setCell (by simp) _).setCell (by simp) _).setCell (by simp) _).setCell (by simp) _).setCell (by simp) _).setCell (by simp) _
  go_wp2
  generalize (World.setCell (World.setCell (World.setCell (World.setCell (World.setCell (World.setCell _ _ _) _ _) _ _) _ _) _ _) _ _) = w16 at k9 hb9 ⊢
  have q0 : w16.cell? ⟨w.heap.size, 0, none⟩ = some (.int .i64 p) := k9.cell 0
  have q1 : w16.cell? ⟨w.heap.size, 1, none⟩ = some (.int .i64 q) := k9.cell 1
  have q2 : w16.cell? ⟨w.heap.size, 2, none⟩ = some (.int .i64 r) := k9.cell 2
  have q3 : w16.cell? ⟨w.heap.size, 3, none⟩ = some (.int .i64 s) := k9.cell 3
  have q4 : w16.cell? ⟨w.heap.size, 4, none⟩ = some (.int .i64 t) := k9.cell 4
  have q5 : w16.cell? ⟨w.heap.size, 5, none⟩ = some (.int .i64 u) := k9.cell 5
  refine bodyPost_ret (v := .tuple #[.int .i64 a, .agg #[.int .i64 p, .int .i64 q, .int .i64 r, .int .i64 s, .int .i64 t, .int .i64 u]]) (by simp [results, Try.results9, go_sem, q0, q1, q2, q3, q4, q5]) rfl ?_
  exact ⟨_, _, _, _, _, _, _, rfl, ha, hi, hb9⟩
/-- three numbers, drawn by a function -/
def ThreeOut (w : World) (e : Ending) (w' : World) : Prop := ∃ a b c : Int, e = .returned (.tuple #[.int .i64 a, .int .i64 b, .int .i64 c]) ∧ (I64 a ∧ I64 b ∧ I64 c) ∧ Below w.heap.size w w'
set_option maxHeartbeats 1000000 in
set_option maxRecDepth 100000 in
theorem d_drawScaled (v : Value) (xs : List Int) (w : World) (h : RdB w w.heap.size v xs) : Calls Try.prog 17 #[v] w (ThreeOut w) := by
  have d1 := Dr.make0 h
  obtain ⟨a0, cap, rfl, _⟩ := h
  go_enter Try.func17, Try.ntmps17
  go_wp2_with fail
  generalize w.alloc _ = W0 at d1 ⊢
  refine (d_areaNumber d1 (by omega)).mono ?_
  rintro e w2 ⟨a, rfl, ha, d2⟩
  go_wp2_with fail
  refine (d_pick d2 (by omega) 30 (by omega)).mono ?_
  rintro e w3 ⟨x, rfl, hx, d3⟩
  go_wp2_with fail
  refine (d_among d3 (by omega) [0, 101] (by simp)).mono ?_
  rintro e w4 ⟨y, rfl, hy, d4⟩
  replace hy : 0 ≤ y ∧ y ≤ 101 := by simp at hy; omega
  go_wp2_with fail
  refine (d_among d4 (by omega) [2, 5, 9, 16, 1 + x, 100, y] (by simp)).mono ?_
  rintro e w5 ⟨u, rfl, hu, d5⟩
  replace hu : 0 ≤ u ∧ u ≤ 101 := by simp at hu; omega
  clear d1 d2 d3 d4
  go_wp2_with fail
  refine (d_one d5 (by omega) 2 (by omega)).mono ?_
  rintro e w6 ⟨b, rfl, d6⟩
  clear d5
  cases b
  · go_wp2_with fail
    refine (c_l1Most 1 u _).mono ?_
    rintro e _ ⟨rfl, rfl⟩
    have hmx : 0 ≤ maxI 1 u ∧ maxI 1 u ≤ 101 := by unfold maxI; split <;> omega
    generalize maxI 1 u = mx at *
    go_wp2_with fail
    refine (d_pick (d6) (by omega) mx (by omega)).mono ?_
    rintro e wA ⟨x2, rfl, hx2, dA⟩
    go_wp2_with fail
    refine (d_among dA (by omega) [1, 4, x2 + 1, u, 0] (by simp)).mono ?_
    rintro e wB ⟨y2, rfl, hy2, dB⟩
    replace hy2 : 0 ≤ y2 ∧ y2 ≤ 1000001 := by simp at hy2; omega
    go_wp2
    refine bodyPost_ret (v := .tuple #[.int .i64 a, .int .i64 u, .int .i64 y2]) (by simp [results, Try.results17, go_sem]) rfl ?_
    exact ⟨_, _, _, rfl, by unfold I64; omega, dB.out⟩
  · go_wp2_with fail
    refine (d_pick d6 (by omega) 8 (by omega)).mono ?_
    rintro e w7 ⟨z, rfl, hz, d7⟩
    obtain ⟨hb, hk⟩ := okB_at (x := z) (by omega)
    have z1 := mulb (x := 2 + z) (y := 2 + z) 9 9 (by omega) (by omega)
    have HT := Lib.hid (fun W => c_tcClassB _ hb hk W)
    generalize hc : cls ((2 + z) * ((2 + z) * (2 + z) - 1)) = c at HT
    have HG := Lib.hid (fun W => c_cnGood c W)
    have HA : Hid (areaB c = true → 1 ≤ c ∧ c ≤ 31) := fun h => areaB_bd h
    generalize areaB c = ok at HG HA
    clear hk hc d6
    go_wp2_with fail
    refine (HT.out _).mono ?_
    rintro e w8 ⟨rfl, hb8⟩
    have d8 := d7.below hb8
    go_wp2_with fail
    refine (HG.out _).mono ?_
    rintro e w9 ⟨rfl, hb9⟩
    have d9 := d8.below hb9
    clear d7 d8 hb8 hb9 HT HG
    cases ok
    · go_wp2_with fail
      refine (c_l1Most 1 u _).mono ?_
      rintro e _ ⟨rfl, rfl⟩
      have hmx : 0 ≤ maxI 1 u ∧ maxI 1 u ≤ 101 := by unfold maxI; split <;> omega
      generalize maxI 1 u = mx at *
      go_wp2_with fail
      refine (d_pick (d9) (by omega) mx (by omega)).mono ?_
      rintro e wA ⟨x2, rfl, hx2, dA⟩
      go_wp2_with fail
      refine (d_among dA (by omega) [1, 4, x2 + 1, u, 0] (by simp)).mono ?_
      rintro e wB ⟨y2, rfl, hy2, dB⟩
      replace hy2 : 0 ≤ y2 ∧ y2 ≤ 1000001 := by simp at hy2; omega
      go_wp2
      refine bodyPost_ret (v := .tuple #[.int .i64 a, .int .i64 u, .int .i64 y2]) (by simp [results, Try.results17, go_sem]) rfl ?_
      exact ⟨_, _, _, rfl, by unfold I64; omega, dB.out⟩
    · have hcb := HA.out rfl
      go_wp2
      refine bodyPost_ret (v := .tuple #[.int .i64 c, .int .i64 (2 + z), .int .i64 1]) (by simp [results, Try.results17, go_sem]) rfl ?_
      exact ⟨_, _, _, rfl, by unfold I64; omega, d9.out⟩
end Go.Proofs.Ytcnfjapoopdiaaa

/- Stv -/
namespace Go.Proofs.Ytcnfjapoopdiaaa
open Go.RowKit

section
variable {P : Program} {ops : Array Oper} {Q : Exit → Act → World → Prop} {ex : List Nat} {W : World} {D : World → Prop}
/-- an operation that leaves a value and a world, both known up to a predicate -/
theorem stepC_val {a : Act} {listed : Array Bool} {f i : Nat} {o : Oper} (dd : Option Tmp) (D' : Value → World → Prop) (ho : ops[i]? = some o) (hw : Region.wanted o (yielded ops a.tmps) = true)
    (hdd : o.dst = dd) (hD' : ∀ v, Closed (D' v))
    (hrun : ∀ w, Over ex W w → D w → ∃ v w', (execOp a.eval o).run P w = .ok (.value v) w' ∧ Over ex w w' ∧ D' v w')
    (h : ∀ v, (∃ w, Over ex W w ∧ D' v w) → wpAnyF P ops Q ex W (fun _ => false) f (listed.setIfInBounds i true) (a.put dd v) (fun _ => True) (D' v)) :
    StepF P ops Q ex W (fun _ => false) f listed a (fun _ => True) D i := fun w hO hd => by
  unfold wpOp
  simp only [ho, hw, if_true]
  refine .inl ?_
  obtain ⟨v, w', h1, h2, h3⟩ := hrun w hO hd
  unfold Oper.wp
  rw [h1]
  simp only [Oper.upon]
  rw [hdd]
  exact ⟨fun _ => True, D' v, hD' v, fun _ _ => trivial, fun _ => rfl, hO.trans h2, h3, h v ⟨w', hO.trans h2, h3⟩⟩
end
end Go.Proofs.Ytcnfjapoopdiaaa

/- DrT5 -/
namespace Go.Proofs.Ytcnfjapoopdiaaa
open Go.RowKit

/-- an area number and a point, drawn by a function -/
def PtOut (w : World) (e : Ending) (w' : World) : Prop := ∃ a x y z : Int, e = .returned (.tuple #[.int .i64 a, .agg #[.int .i64 x, .int .i64 y, .int .i64 z]]) ∧ (-5 ≤ a ∧ a ≤ 33) ∧ (I64 x ∧ I64 y ∧ I64 z) ∧ Below w.heap.size w w'
theorem sp_i64 {A X Y E : Int} {r : Int × Int × Int} (h : spS A X Y E X Y E = some r) : I64 r.1 ∧ I64 r.2.1 ∧ I64 r.2.2 := by
  unfold spS at h
  split at h
  · cases h; unfold I64; dsimp only; omega
  · unfold spA at h
    split at h
    · cases h
    · split at h
      · rename_i hc
        cases h
        have h1 := inB_true hc.2.2
        have h2 := hc.2.1
        have h3 := rtI_nonneg (mkD (spT (mkN (slN A X Y E X Y E) (slD X Y E X Y E)) (mkD (slN A X Y E X Y E) (slD X Y E X Y E)) X E X E) (spB (mkD (slN A X Y E X Y E) (slD X Y E X Y E)) E E))
        refine ⟨by unfold I64; dsimp only; omega, ?_, by unfold I64; dsimp only; omega⟩
        show I64 (spW _ _ _ _ _ _ _)
        unfold spW spY I64 wrap64
        omega
      · cases h
theorem tm_form {A X Y E : Int} (hp : PtIn X Y E) (n : Nat) : ∃ (x y e : Int) (o : Bool), spR (tmV A X Y E n) = .tuple #[.agg #[.int .i64 x, .int .i64 y, .int .i64 e], .bool o] ∧ (I64 x ∧ I64 y ∧ I64 e) := by
  obtain ⟨h1, h2, h3⟩ := hp
  match n with
  | 0 => exact ⟨0, 0, 0, true, rfl, by unfold I64; omega⟩
  | 1 => exact ⟨X, Y, E, true, rfl, by unfold I64; omega⟩
  | n + 2 =>
    show ∃ (x y e : Int) (o : Bool), spR (spS A X Y E X Y E) = _ ∧ _
    cases h : spS A X Y E X Y E with
    | none => exact ⟨0, 0, 0, false, rfl, by unfold I64; omega⟩
    | some r => exact ⟨r.1, r.2.1, r.2.2, true, rfl, sp_i64 h⟩
theorem pot_in {n p q r s t u X Y E : Int} (hP : PotV n p q r s t u X Y E) : PtIn X Y E ∧ 1 ≤ E := by
  obtain ⟨hE, hpt, _⟩ := hP
  have hf : finB (congA n) 0 X Y E = true := by
    unfold ptF at hpt
    have h0 : (E == 0) = false := by simp; omega
    rw [h0, Bool.and_false, Bool.false_or] at hpt
    exact hpt
  unfold finB at hf
  simp only [Bool.and_eq_true] at hf
  have hX := inB_true hf.1.1.1.1
  have hY := inB_true hf.1.2
  exact ⟨⟨hX, hY, by omega⟩, hE.1⟩
set_option maxHeartbeats 4000000 in
set_option maxRecDepth 100000 in
theorem d_drawTriangleOf (v : Value) (xs : List Int) (w : World) (h : RdB w w.heap.size v xs) : Calls Try.prog 16 #[v] w (PtOut w) := by
  have d1 := Dr.make1 h #[.int .i64 0, .int .i64 0, .int .i64 0] 30
  obtain ⟨a0, cap, rfl, _⟩ := h
  go_enter Try.func16, Try.ntmps16
  go_upto_region 2 with (fail)
  generalize (w.alloc _).alloc _ = W0 at d1 ⊢
  have hlk : w.heap.size < w.heap.size + 1 := by omega
  generalize w.heap.size + 1 = k at d1 hlk ⊢
  go_wp2_with fail
  refine (d_areaNumber d1 (by omega)).mono ?_
  rintro e w2 ⟨a, rfl, ha, d2⟩
  go_wp2_with fail
  refine (c_cnGood a _).mono ?_
  rintro e w3 ⟨rfl, hb3⟩
  have d3 := d2.below hb3
  clear d1 d2 hb3
  cases hg : areaB a
  · go_wp2_with fail
    refine (d_among (d3) (by omega) [a, -a, 0] (by simp)).mono ?_
    rintro e wA ⟨b1, rfl, hb1, dA⟩
    replace hb1 : I64 b1 := by unfold I64; simp at hb1; omega
    go_wp2_with fail
    refine (d_pick dA (by omega) 2 (by omega)).mono ?_
    rintro e wB ⟨b2, rfl, hb2, dB⟩
    replace hb2 : I64 b2 := by simp at hb2; unfold I64; omega
    have hE := dB.head
    have hE0 : (wB).cell? ⟨w.heap.size, 0, none⟩ = some (.int .i64 0) := hE.cell 0; have hE1 : (wB).cell? ⟨w.heap.size, 1, none⟩ = some (.int .i64 0) := hE.cell 1; have hE2 : (wB).cell? ⟨w.heap.size, 2, none⟩ = some (.int .i64 0) := hE.cell 2; have hEf0 : (wB).frozen? ⟨w.heap.size, 0, none⟩ = false := hE.frozen 0; have hEf1 : (wB).frozen? ⟨w.heap.size, 1, none⟩ = false := hE.frozen 1; have hEf2 : (wB).frozen? ⟨w.heap.size, 2, none⟩ = false := hE.frozen 2; have hEl : w.heap.size < (wB).heap.size := hE.lt
    have d9 := ((dB).set 0 (.int .i64 (b1))).set 1 (.int .i64 (0))
    replace d9 := d9.set 2 (.int .i64 (b2))
    go_wp2
    generalize (World.setCell (World.setCell (World.setCell _ _ _) _ _) _ _) = w16 at d9 ⊢
    have hQ := d9.head
    have hQ0 : w16.cell? ⟨w.heap.size, 0, none⟩ = some (.int .i64 (b1)) := hQ.cell 0
    have hQ1 : w16.cell? ⟨w.heap.size, 1, none⟩ = some (.int .i64 (0)) := hQ.cell 1
    have hQ2 : w16.cell? ⟨w.heap.size, 2, none⟩ = some (.int .i64 (b2)) := hQ.cell 2
    refine bodyPost_ret (v := .tuple #[.int .i64 a, .agg #[.int .i64 (b1), .int .i64 (0), .int .i64 (b2)]]) (by simp [results, Try.results16, go_sem, hQ0, hQ1, hQ2]) rfl ?_
    exact ⟨_, _, _, _, rfl, ha, ⟨hb1, by unfold I64; omega, hb2⟩, by first | exact d9.out | exact (d9.below ((Below.refl _ _).drew)).out⟩
  · have hn1 := areaB_bd hg
    go_wp2_with fail
    refine (d_triangleFor d3 (by omega) a).mono ?_
    rintro e w4 ⟨p, q, r, s, t, u, rfl, hi, d4⟩
    obtain ⟨x, y, z, o, hP, _, hF⟩ := pot_all a p q r s t u
    have HP := Lib.hid hP
    have HF := Lib.hid hF
    clear hP hF d3 hg
    go_wp2_with fail
    refine (HP.out _).mono ?_
    rintro e w5 ⟨rfl, hb5⟩
    have d5 := (d4.below hb5).alloc #[.int .i64 x, .int .i64 y, .int .i64 z] 30
    clear d4 hb5 HP
    go_upto_region 5 with (fail)
    generalize w5.alloc _ = wr at d5 ⊢
    generalize w5.heap.size = F at d5 ⊢
    cases o
    · go_wp2_with fail
      refine (d_among (d5.tail) (by omega) [a, -a, 0] (by simp)).mono ?_
      rintro e wA ⟨b1, rfl, hb1, dA⟩
      replace hb1 : I64 b1 := by unfold I64; simp at hb1; omega
      go_wp2_with fail
      refine (d_pick dA (by omega) 2 (by omega)).mono ?_
      rintro e wB ⟨b2, rfl, hb2, dB⟩
      replace hb2 : I64 b2 := by simp at hb2; unfold I64; omega
      have hE := dB.head
      have hE0 : (wB).cell? ⟨w.heap.size, 0, none⟩ = some (.int .i64 0) := hE.cell 0; have hE1 : (wB).cell? ⟨w.heap.size, 1, none⟩ = some (.int .i64 0) := hE.cell 1; have hE2 : (wB).cell? ⟨w.heap.size, 2, none⟩ = some (.int .i64 0) := hE.cell 2; have hEf0 : (wB).frozen? ⟨w.heap.size, 0, none⟩ = false := hE.frozen 0; have hEf1 : (wB).frozen? ⟨w.heap.size, 1, none⟩ = false := hE.frozen 1; have hEf2 : (wB).frozen? ⟨w.heap.size, 2, none⟩ = false := hE.frozen 2; have hEl : w.heap.size < (wB).heap.size := hE.lt
      have d9 := ((dB).set 0 (.int .i64 (b1))).set 1 (.int .i64 (0))
      replace d9 := d9.set 2 (.int .i64 (b2))
      go_wp2
      generalize (World.setCell (World.setCell (World.setCell _ _ _) _ _) _ _) = w16 at d9 ⊢
      have hQ := d9.head
      have hQ0 : w16.cell? ⟨w.heap.size, 0, none⟩ = some (.int .i64 (b1)) := hQ.cell 0
      have hQ1 : w16.cell? ⟨w.heap.size, 1, none⟩ = some (.int .i64 (0)) := hQ.cell 1
      have hQ2 : w16.cell? ⟨w.heap.size, 2, none⟩ = some (.int .i64 (b2)) := hQ.cell 2
      refine bodyPost_ret (v := .tuple #[.int .i64 a, .agg #[.int .i64 (b1), .int .i64 (0), .int .i64 (b2)]]) (by simp [results, Try.results16, go_sem, hQ0, hQ1, hQ2]) rfl ?_
      exact ⟨_, _, _, _, rfl, ha, ⟨hb1, by unfold I64; omega, hb2⟩, by first | exact d9.out | exact (d9.below ((Below.refl _ _).drew)).out⟩
    · obtain ⟨hin, hE1⟩ := pot_in (HF.out rfl).2
      have hAc := congA_bd hn1.1 hn1.2
      have hA : -1000 ≤ congA a ∧ congA a ≤ 1000 := by unfold congA at hAc ⊢; omega
      have HCv := Lib.hid (fun W => c_cnCurve a hn1.1 hn1.2 W)
      have HTm : Hid (∀ (b : Int) (W : World), 0 ≤ b → b ≤ 4 → ∃ (x2 y2 e2 : Int) (o2 : Bool), (I64 x2 ∧ I64 y2 ∧ I64 e2) ∧ Calls Try.prog 60 #[.agg #[.int .i64 (congA a), .int .i64 0], .agg #[.int .i64 x, .int .i64 y, .int .i64 z], .int .i64 (b - 2)] W fun e w' => e = .returned (.tuple #[.agg #[.int .i64 x2, .int .i64 y2, .int .i64 e2], .bool o2]) ∧ Below W.heap.size W w') := fun b W h1 h2 => by
        have hin2 : PtIn x (if b - 2 < 0 then -y else y) z := ⟨hin.1, (by have := hin.2.1; split <;> omega), hin.2.2⟩
        obtain ⟨x2, y2, e2, o2, he, hi⟩ := tm_form (A := congA a) hin2 (b - 2).natAbs
        have hc := c_sTimes (congA a) 0 x y z (b - 2) hA hin hE1 (by omega) W
        rw [he] at hc
        exact ⟨x2, y2, e2, o2, hi, hc⟩
      have hi3 : I64 x ∧ I64 y ∧ I64 z := by obtain ⟨i1, i2, i3⟩ := hin; unfold I64; omega
      generalize congA a = ca at *
      clear HF hin hE1 hA hAc hn1
      go_upto_region 6 with (fail)
      have hFk := (d5.far _ (List.mem_cons_self ..)).1
      simp only at hFk
      have hF0 := d5.head.lt
      obtain ⟨c0, c1, c2, _, _, _⟩ := d5.three
      replace d5 := d5.le (show _ ≤ 300 by omega)
      refine wp_region_cls [k] (fun _ => false) (fun _ => True) (Dr w.heap.size k (.slice a0 xs.length cap) xs 300 w ([(F, #[.int .i64 x, .int .i64 y, .int .i64 z], 30), (w.heap.size, #[.int .i64 0, .int .i64 0, .int .i64 0], 30)])) (by kernel_rfl) (d5.below ((Below.refl _ _).drew)) ?_
      apply wpAnyF_hd ⟨wr.drew, (Over.refl _ _).drew, d5.below ((Below.refl _ _).drew)⟩ [true, false, true, true] 10 (fun _ _ h hb => h.below hb) (fun _ _ => trivial) (by kernel_rfl) (by kernel_rfl) (by kernel_rfl) (by kernel_rfl) (by simp)
      · intro E hE hEN hEn; (repeat (first | (refine wpHL_take ?_; go_big_quiet_step (fail); refine wpQuiet_nil ?_) | refine wpHL_skip ?_)); exact wpHL_end rfl
      refine wpAnyF_ready [1, 10] 9 (by kernel_rfl) (by kernel_rfl) (by simp) ?_
      refine AllF.cons ?_ ?_
      · refine stepC_call (v := .agg #[.int .i64 ca, .int .i64 0]) (some 28) (Dr w.heap.size k (.slice a0 xs.length cap) xs 300 w ([(F, #[.int .i64 x, .int .i64 y, .int .i64 z], 30), (w.heap.size, #[.int .i64 0, .int .i64 0, .int .i64 0], 30)])) (by rfl) (by rfl) (by rfl) (fun _ => by go_simp) (fun _ _ h hb => h.below hb) (fun w' hO hD => (HCv.out w').mono fun e w2 ⟨he, hb⟩ => ⟨he, .of_below hb, hD.below hb⟩) (fun hne => ?_)
        simp only [Act.put, List.setIfInBounds_toArray, List.set_cons_succ, List.set_cons_zero]
        refine wpAnyF_ready [4, 10] 8 (by kernel_rfl) (by kernel_rfl) (by simp) ?_
        refine AllF.cons ?_ ?_
        · refine stepC_calle (some 31) (fun u w' => ∃ b : Int, u = .int .i64 b ∧ (0 ≤ b ∧ b ≤ 4) ∧ Dr w.heap.size k (.slice a0 xs.length cap) xs 302 w ([(F, #[.int .i64 x, .int .i64 y, .int .i64 z], 30), (w.heap.size, #[.int .i64 0, .int .i64 0, .int .i64 0], 30)]) w') (by rfl) (by rfl) (by rfl) (fun _ => by go_simp) (fun _ _ _ ⟨y, h, hy, d⟩ hb => ⟨y, h, hy, d.below hb⟩) (fun w' hO hD => (c_pick _ _ _ _ _ (by omega) 5 (by omega) w' hD.cur).mono fun e w2 ⟨b, he, h2, h3, h4, h5⟩ => ⟨_, he, h5, ⟨b, rfl, ⟨h2, (by simp at h3; omega)⟩, hD.go h4 h5⟩⟩) (fun u hne => ?_)
          simp only [Act.put, List.setIfInBounds_toArray, List.set_cons_succ, List.set_cons_zero]
          obtain ⟨w9, hO9, b, rfl, hbb, hd9⟩ := hne
          refine wpAnyF_weaken (D2 := Dr w.heap.size k (.slice a0 xs.length cap) xs 302 w ([(F, #[.int .i64 x, .int .i64 y, .int .i64 z], 30), (w.heap.size, #[.int .i64 0, .int .i64 0, .int .i64 0], 30)])) (fun w' ⟨r', hr', _, d⟩ => d) ?_
          have hne : ∃ w1, Over [k] wr w1 ∧ Dr w.heap.size k (.slice a0 xs.length cap) xs 302 w ([(F, #[.int .i64 x, .int .i64 y, .int .i64 z], 30), (w.heap.size, #[.int .i64 0, .int .i64 0, .int .i64 0], 30)]) w1 := ⟨w9, hO9, hd9⟩
          clear hO9 hd9
          apply wpAnyF_hd hne [false, false, false, false, false, true] 7 (fun _ _ h hb => h.below hb) (fun _ _ => trivial) (by kernel_rfl) (by kernel_rfl) (by kernel_rfl) (by kernel_rfl) (by simp)
          · intro E hE hEN hEn; (repeat (first | (refine wpHL_take ?_; go_big_quiet_step (fail); refine wpQuiet_nil ?_) | refine wpHL_skip ?_)); exact wpHL_end rfl
          refine wpAnyF_ready [6, 10] 6 (by kernel_rfl) (by kernel_rfl) (by simp) ?_
          refine AllF.cons ?_ ?_
          · refine stepC_calle (some 33) (fun u w' => ∃ (x2 y2 e2 : Int) (o2 : Bool), u = .tuple #[.agg #[.int .i64 x2, .int .i64 y2, .int .i64 e2], .bool o2] ∧ (I64 x2 ∧ I64 y2 ∧ I64 e2) ∧ Dr w.heap.size k (.slice a0 xs.length cap) xs 302 w ([(F, #[.int .i64 x, .int .i64 y, .int .i64 z], 30), (w.heap.size, #[.int .i64 0, .int .i64 0, .int .i64 0], 30)]) w') (by rfl) (by rfl) (by rfl) (fun _ => by go_simp; exact ⟨rfl, rfl⟩) (fun _ _ _ ⟨x2, y2, e2, o2, h, hy, d⟩ hb => ⟨x2, y2, e2, o2, h, hy, d.below hb⟩) (fun w' hO hD => by obtain ⟨x2, y2, e2, o2, hi, hc⟩ := HTm.out b w' hbb.1 hbb.2; exact hc.mono fun e w2 ⟨he, hb⟩ => ⟨_, he, .of_below hb, ⟨x2, y2, e2, o2, rfl, hi, hD.below hb⟩⟩) (fun u hne => ?_)
            simp only [Act.put, List.setIfInBounds_toArray, List.set_cons_succ, List.set_cons_zero]
            obtain ⟨w9, hO9, x2, y2, e2, o2, rfl, hi2, hd9⟩ := hne
            refine wpAnyF_weaken (D2 := Dr w.heap.size k (.slice a0 xs.length cap) xs 302 w ([(F, #[.int .i64 x, .int .i64 y, .int .i64 z], 30), (w.heap.size, #[.int .i64 0, .int .i64 0, .int .i64 0], 30)])) (fun w' ⟨_, _, _, _, _, _, d⟩ => d) ?_
            have hne : ∃ w1, Over [k] wr w1 ∧ Dr w.heap.size k (.slice a0 xs.length cap) xs 302 w ([(F, #[.int .i64 x, .int .i64 y, .int .i64 z], 30), (w.heap.size, #[.int .i64 0, .int .i64 0, .int .i64 0], 30)]) w1 := ⟨w9, hO9, hd9⟩
            clear hO9 hd9
            apply wpAnyF_hd hne [false, false, false, false, false, false, false, true, true, true] 3 (fun _ _ h hb => h.below hb) (fun _ _ => trivial) (by kernel_rfl) (by kernel_rfl) (by kernel_rfl) (by kernel_rfl) (by simp)
            · intro E hE hEN hEn; (repeat (first | (refine wpHL_take ?_; go_big_quiet_step (fail); refine wpQuiet_nil ?_) | refine wpHL_skip ?_)); exact wpHL_end rfl
            refine wpAnyF_ready [10] 2 (by kernel_rfl) (by kernel_rfl) (by simp) ?_
            refine AllF.cons ?_ ?_
            · refine stepC_val (some 8) (fun u w' => ∃ r : Nat, u = .pointer (some ⟨r, 0, none⟩) ∧ wr.heap.size ≤ r ∧ Dr w.heap.size k (.slice a0 xs.length cap) xs 302 w ((r, #[.int .i64 0, .int .i64 0, .int .i64 0], 30) :: [(F, #[.int .i64 x, .int .i64 y, .int .i64 z], 30), (w.heap.size, #[.int .i64 0, .int .i64 0, .int .i64 0], 30)]) w') (by rfl) (by rfl) (by rfl) (fun _ _ _ ⟨s, h, q, d⟩ hb => ⟨s, h, q, d.below hb⟩) (fun w' hO hD => ⟨.pointer (some ⟨w'.heap.size, 0, none⟩), w'.alloc (.cells #[.int .i64 0, .int .i64 0, .int .i64 0] 30), (by go_simp), (Over.refl _ _).alloc _, ⟨w'.heap.size, rfl, hO.size, hD.alloc _ _⟩⟩) (fun u hne => ?_)
              simp only [Act.put, List.setIfInBounds_toArray, List.set_cons_succ, List.set_cons_zero]
              obtain ⟨w9, hO9, r, rfl, hr, hd9⟩ := hne
              refine wpAnyF_weaken (D2 := Dr w.heap.size k (.slice a0 xs.length cap) xs 302 w ((r, #[.int .i64 0, .int .i64 0, .int .i64 0], 30) :: [(F, #[.int .i64 x, .int .i64 y, .int .i64 z], 30), (w.heap.size, #[.int .i64 0, .int .i64 0, .int .i64 0], 30)])) (fun w' ⟨r', hr', _, d⟩ => by cases hr'; exact d) ?_
              have hne : ∃ w1, Over [k] wr w1 ∧ Dr w.heap.size k (.slice a0 xs.length cap) xs 302 w ((r, #[.int .i64 0, .int .i64 0, .int .i64 0], 30) :: [(F, #[.int .i64 x, .int .i64 y, .int .i64 z], 30), (w.heap.size, #[.int .i64 0, .int .i64 0, .int .i64 0], 30)]) w1 := ⟨w9, hO9, hd9⟩
              clear hO9 hd9
              refine wpAnyF_ready [11] 1 (by kernel_rfl) (by kernel_rfl) (by simp) ?_
              refine AllF.cons ?_ ?_
              · refine stepC_store (v := .agg #[.int .i64 x2, .int .i64 y2, .int .i64 e2]) r #[.int .i64 0, .int .i64 0, .int .i64 0] (Dr w.heap.size k (.slice a0 xs.length cap) xs 302 w ((r, #[.int .i64 x2, .int .i64 y2, .int .i64 e2], 30) :: [(F, #[.int .i64 x, .int .i64 y, .int .i64 z], 30), (w.heap.size, #[.int .i64 0, .int .i64 0, .int .i64 0], 30)])) (by rfl) (by rfl) (by rfl) (by rfl) (by rfl) (by rfl) (fun _ => by go_simp) (by rfl) (by simp [Value.cells, one1]) (.inl hr) (fun _ hd => hd.head) (fun _ _ h hb => h.below hb) (fun _ _ hd ho hb => hd.stored ho hb) (fun hne => ?_)
                try simp only [Value.cells]
                apply wpAnyF_hd hne [false, false, false, false, false, false, false, false, false, false, false, false, true] 0 (fun _ _ h hb => h.below hb) (fun _ _ => trivial) (by kernel_rfl) (by kernel_rfl) (by kernel_rfl) (by kernel_rfl) (by simp)
                · intro E hE hEN hEn; (repeat (first | (refine wpHL_take ?_; go_big_quiet_step (fail); refine wpQuiet_nil ?_) | refine wpHL_skip ?_)); exact wpHL_end rfl
                refine wpAnyF_done (by kernel_rfl) (fun Wz hOz hDz => NoPanic.normal ?_) _
                try dsimp only
                clear hne hOz
                have dS := hDz.tail.tail
                have hR := hDz.head
                have hG := hDz.tail.head
                have hE := dS.head
                have hR0 : (Wz).cell? ⟨r, 0, none⟩ = some (.int .i64 x2) := hR.cell 0; have hR1 : (Wz).cell? ⟨r, 1, none⟩ = some (.int .i64 y2) := hR.cell 1; have hR2 : (Wz).cell? ⟨r, 2, none⟩ = some (.int .i64 e2) := hR.cell 2; have hRf0 : (Wz).frozen? ⟨r, 0, none⟩ = false := hR.frozen 0; have hRf1 : (Wz).frozen? ⟨r, 1, none⟩ = false := hR.frozen 1; have hRf2 : (Wz).frozen? ⟨r, 2, none⟩ = false := hR.frozen 2; have hRl : r < (Wz).heap.size := hR.lt
                have hG0 : (Wz).cell? ⟨F, 0, none⟩ = some (.int .i64 x) := hG.cell 0; have hG1 : (Wz).cell? ⟨F, 1, none⟩ = some (.int .i64 y) := hG.cell 1; have hG2 : (Wz).cell? ⟨F, 2, none⟩ = some (.int .i64 z) := hG.cell 2; have hGf0 : (Wz).frozen? ⟨F, 0, none⟩ = false := hG.frozen 0; have hGf1 : (Wz).frozen? ⟨F, 1, none⟩ = false := hG.frozen 1; have hGf2 : (Wz).frozen? ⟨F, 2, none⟩ = false := hG.frozen 2; have hGl : F < (Wz).heap.size := hG.lt
                have hE0 : (Wz).cell? ⟨w.heap.size, 0, none⟩ = some (.int .i64 0) := hE.cell 0; have hE1 : (Wz).cell? ⟨w.heap.size, 1, none⟩ = some (.int .i64 0) := hE.cell 1; have hE2 : (Wz).cell? ⟨w.heap.size, 2, none⟩ = some (.int .i64 0) := hE.cell 2; have hEf0 : (Wz).frozen? ⟨w.heap.size, 0, none⟩ = false := hE.frozen 0; have hEf1 : (Wz).frozen? ⟨w.heap.size, 1, none⟩ = false := hE.frozen 1; have hEf2 : (Wz).frozen? ⟨w.heap.size, 2, none⟩ = false := hE.frozen 2; have hEl : w.heap.size < (Wz).heap.size := hE.lt
                cases o2
                · go_upto_region 9 with (fail)
                  (refine wp_region_still_tail 3 (by kernel_rfl) (by kernel_rfl) ?_; simp only [List.take_succ_cons, List.take_zero, List.drop_succ_cons, List.drop_zero]; (repeat still_step); refine wpStill_nil ?_)
                  have d9 := ((dS).set 0 (.int .i64 (x))).set 1 (.int .i64 (y))
                  replace d9 := d9.set 2 (.int .i64 (z))
                  go_wp2
                  generalize (World.setCell (World.setCell (World.setCell _ _ _) _ _) _ _) = w16 at d9 ⊢
                  have hQ := d9.head
                  have hQ0 : w16.cell? ⟨w.heap.size, 0, none⟩ = some (.int .i64 (x)) := hQ.cell 0
                  have hQ1 : w16.cell? ⟨w.heap.size, 1, none⟩ = some (.int .i64 (y)) := hQ.cell 1
                  have hQ2 : w16.cell? ⟨w.heap.size, 2, none⟩ = some (.int .i64 (z)) := hQ.cell 2
                  refine bodyPost_ret (v := .tuple #[.int .i64 a, .agg #[.int .i64 (x), .int .i64 (y), .int .i64 (z)]]) (by simp [results, Try.results16, go_sem, hQ0, hQ1, hQ2]) rfl ?_
                  exact ⟨_, _, _, _, rfl, ha, hi3, by first | exact d9.out | exact (d9.below ((Below.refl _ _).drew)).out⟩
                · go_upto_region 8 with (fail)
                  (refine wp_region_still_tail 3 (by kernel_rfl) (by kernel_rfl) ?_; simp only [List.take_succ_cons, List.take_zero, List.drop_succ_cons, List.drop_zero]; (repeat still_step); refine wpStill_nil ?_)
                  have d9 := ((dS).set 0 (.int .i64 (x2))).set 1 (.int .i64 (y2))
                  replace d9 := d9.set 2 (.int .i64 (e2))
                  go_wp2
                  generalize (World.setCell (World.setCell (World.setCell _ _ _) _ _) _ _) = w16 at d9 ⊢
                  have hQ := d9.head
                  have hQ0 : w16.cell? ⟨w.heap.size, 0, none⟩ = some (.int .i64 (x2)) := hQ.cell 0
                  have hQ1 : w16.cell? ⟨w.heap.size, 1, none⟩ = some (.int .i64 (y2)) := hQ.cell 1
                  have hQ2 : w16.cell? ⟨w.heap.size, 2, none⟩ = some (.int .i64 (e2)) := hQ.cell 2
                  refine bodyPost_ret (v := .tuple #[.int .i64 a, .agg #[.int .i64 (x2), .int .i64 (y2), .int .i64 (e2)]]) (by simp [results, Try.results16, go_sem, hQ0, hQ1, hQ2]) rfl ?_
                  exact ⟨_, _, _, _, rfl, ha, hi2, by first | exact d9.out | exact (d9.below ((Below.refl _ _).drew)).out⟩
              exact AllF.nil
            exact AllF.nil
          refine AllF.cons ?_ ?_
          · refine stepC_val (some 8) (fun u w' => ∃ r : Nat, u = .pointer (some ⟨r, 0, none⟩) ∧ wr.heap.size ≤ r ∧ Dr w.heap.size k (.slice a0 xs.length cap) xs 302 w ((r, #[.int .i64 0, .int .i64 0, .int .i64 0], 30) :: [(F, #[.int .i64 x, .int .i64 y, .int .i64 z], 30), (w.heap.size, #[.int .i64 0, .int .i64 0, .int .i64 0], 30)]) w') (by rfl) (by rfl) (by rfl) (fun _ _ _ ⟨s, h, q, d⟩ hb => ⟨s, h, q, d.below hb⟩) (fun w' hO hD => ⟨.pointer (some ⟨w'.heap.size, 0, none⟩), w'.alloc (.cells #[.int .i64 0, .int .i64 0, .int .i64 0] 30), (by go_simp), (Over.refl _ _).alloc _, ⟨w'.heap.size, rfl, hO.size, hD.alloc _ _⟩⟩) (fun u hne => ?_)
            simp only [Act.put, List.setIfInBounds_toArray, List.set_cons_succ, List.set_cons_zero]
            obtain ⟨w9, hO9, r, rfl, hr, hd9⟩ := hne
            refine wpAnyF_weaken (D2 := Dr w.heap.size k (.slice a0 xs.length cap) xs 302 w ((r, #[.int .i64 0, .int .i64 0, .int .i64 0], 30) :: [(F, #[.int .i64 x, .int .i64 y, .int .i64 z], 30), (w.heap.size, #[.int .i64 0, .int .i64 0, .int .i64 0], 30)])) (fun w' ⟨r', hr', _, d⟩ => by cases hr'; exact d) ?_
            have hne : ∃ w1, Over [k] wr w1 ∧ Dr w.heap.size k (.slice a0 xs.length cap) xs 302 w ((r, #[.int .i64 0, .int .i64 0, .int .i64 0], 30) :: [(F, #[.int .i64 x, .int .i64 y, .int .i64 z], 30), (w.heap.size, #[.int .i64 0, .int .i64 0, .int .i64 0], 30)]) w1 := ⟨w9, hO9, hd9⟩
            clear hO9 hd9
            refine wpAnyF_ready [6] 5 (by kernel_rfl) (by kernel_rfl) (by simp) ?_
            refine AllF.cons ?_ ?_
            · refine stepC_calle (some 33) (fun u w' => ∃ (x2 y2 e2 : Int) (o2 : Bool), u = .tuple #[.agg #[.int .i64 x2, .int .i64 y2, .int .i64 e2], .bool o2] ∧ (I64 x2 ∧ I64 y2 ∧ I64 e2) ∧ Dr w.heap.size k (.slice a0 xs.length cap) xs 302 w ((r, #[.int .i64 0, .int .i64 0, .int .i64 0], 30) :: [(F, #[.int .i64 x, .int .i64 y, .int .i64 z], 30), (w.heap.size, #[.int .i64 0, .int .i64 0, .int .i64 0], 30)]) w') (by rfl) (by rfl) (by rfl) (fun _ => by go_simp; exact ⟨rfl, rfl⟩) (fun _ _ _ ⟨x2, y2, e2, o2, h, hy, d⟩ hb => ⟨x2, y2, e2, o2, h, hy, d.below hb⟩) (fun w' hO hD => by obtain ⟨x2, y2, e2, o2, hi, hc⟩ := HTm.out b w' hbb.1 hbb.2; exact hc.mono fun e w2 ⟨he, hb⟩ => ⟨_, he, .of_below hb, ⟨x2, y2, e2, o2, rfl, hi, hD.below hb⟩⟩) (fun u hne => ?_)
              simp only [Act.put, List.setIfInBounds_toArray, List.set_cons_succ, List.set_cons_zero]
              obtain ⟨w9, hO9, x2, y2, e2, o2, rfl, hi2, hd9⟩ := hne
              refine wpAnyF_weaken (D2 := Dr w.heap.size k (.slice a0 xs.length cap) xs 302 w ((r, #[.int .i64 0, .int .i64 0, .int .i64 0], 30) :: [(F, #[.int .i64 x, .int .i64 y, .int .i64 z], 30), (w.heap.size, #[.int .i64 0, .int .i64 0, .int .i64 0], 30)])) (fun w' ⟨_, _, _, _, _, _, d⟩ => d) ?_
              have hne : ∃ w1, Over [k] wr w1 ∧ Dr w.heap.size k (.slice a0 xs.length cap) xs 302 w ((r, #[.int .i64 0, .int .i64 0, .int .i64 0], 30) :: [(F, #[.int .i64 x, .int .i64 y, .int .i64 z], 30), (w.heap.size, #[.int .i64 0, .int .i64 0, .int .i64 0], 30)]) w1 := ⟨w9, hO9, hd9⟩
              clear hO9 hd9
              apply wpAnyF_hd hne [false, false, false, false, false, false, false, true, true, true] 2 (fun _ _ h hb => h.below hb) (fun _ _ => trivial) (by kernel_rfl) (by kernel_rfl) (by kernel_rfl) (by kernel_rfl) (by simp)
              · intro E hE hEN hEn; (repeat (first | (refine wpHL_take ?_; go_big_quiet_step (fail); refine wpQuiet_nil ?_) | refine wpHL_skip ?_)); exact wpHL_end rfl
              refine wpAnyF_ready [11] 1 (by kernel_rfl) (by kernel_rfl) (by simp) ?_
              refine AllF.cons ?_ ?_
              · refine stepC_store (v := .agg #[.int .i64 x2, .int .i64 y2, .int .i64 e2]) r #[.int .i64 0, .int .i64 0, .int .i64 0] (Dr w.heap.size k (.slice a0 xs.length cap) xs 302 w ((r, #[.int .i64 x2, .int .i64 y2, .int .i64 e2], 30) :: [(F, #[.int .i64 x, .int .i64 y, .int .i64 z], 30), (w.heap.size, #[.int .i64 0, .int .i64 0, .int .i64 0], 30)])) (by rfl) (by rfl) (by rfl) (by rfl) (by rfl) (by rfl) (fun _ => by go_simp) (by rfl) (by simp [Value.cells, one1]) (.inl hr) (fun _ hd => hd.head) (fun _ _ h hb => h.below hb) (fun _ _ hd ho hb => hd.stored ho hb) (fun hne => ?_)
                try simp only [Value.cells]
                apply wpAnyF_hd hne [false, false, false, false, false, false, false, false, false, false, false, false, true] 0 (fun _ _ h hb => h.below hb) (fun _ _ => trivial) (by kernel_rfl) (by kernel_rfl) (by kernel_rfl) (by kernel_rfl) (by simp)
                · intro E hE hEN hEn; (repeat (first | (refine wpHL_take ?_; go_big_quiet_step (fail); refine wpQuiet_nil ?_) | refine wpHL_skip ?_)); exact wpHL_end rfl
                refine wpAnyF_done (by kernel_rfl) (fun Wz hOz hDz => NoPanic.normal ?_) _
                try dsimp only
                clear hne hOz
                have dS := hDz.tail.tail
                have hR := hDz.head
                have hG := hDz.tail.head
                have hE := dS.head
                have hR0 : (Wz).cell? ⟨r, 0, none⟩ = some (.int .i64 x2) := hR.cell 0; have hR1 : (Wz).cell? ⟨r, 1, none⟩ = some (.int .i64 y2) := hR.cell 1; have hR2 : (Wz).cell? ⟨r, 2, none⟩ = some (.int .i64 e2) := hR.cell 2; have hRf0 : (Wz).frozen? ⟨r, 0, none⟩ = false := hR.frozen 0; have hRf1 : (Wz).frozen? ⟨r, 1, none⟩ = false := hR.frozen 1; have hRf2 : (Wz).frozen? ⟨r, 2, none⟩ = false := hR.frozen 2; have hRl : r < (Wz).heap.size := hR.lt
                have hG0 : (Wz).cell? ⟨F, 0, none⟩ = some (.int .i64 x) := hG.cell 0; have hG1 : (Wz).cell? ⟨F, 1, none⟩ = some (.int .i64 y) := hG.cell 1; have hG2 : (Wz).cell? ⟨F, 2, none⟩ = some (.int .i64 z) := hG.cell 2; have hGf0 : (Wz).frozen? ⟨F, 0, none⟩ = false := hG.frozen 0; have hGf1 : (Wz).frozen? ⟨F, 1, none⟩ = false := hG.frozen 1; have hGf2 : (Wz).frozen? ⟨F, 2, none⟩ = false := hG.frozen 2; have hGl : F < (Wz).heap.size := hG.lt
                have hE0 : (Wz).cell? ⟨w.heap.size, 0, none⟩ = some (.int .i64 0) := hE.cell 0; have hE1 : (Wz).cell? ⟨w.heap.size, 1, none⟩ = some (.int .i64 0) := hE.cell 1; have hE2 : (Wz).cell? ⟨w.heap.size, 2, none⟩ = some (.int .i64 0) := hE.cell 2; have hEf0 : (Wz).frozen? ⟨w.heap.size, 0, none⟩ = false := hE.frozen 0; have hEf1 : (Wz).frozen? ⟨w.heap.size, 1, none⟩ = false := hE.frozen 1; have hEf2 : (Wz).frozen? ⟨w.heap.size, 2, none⟩ = false := hE.frozen 2; have hEl : w.heap.size < (Wz).heap.size := hE.lt
                cases o2
                · go_upto_region 9 with (fail)
                  (refine wp_region_still_tail 3 (by kernel_rfl) (by kernel_rfl) ?_; simp only [List.take_succ_cons, List.take_zero, List.drop_succ_cons, List.drop_zero]; (repeat still_step); refine wpStill_nil ?_)
                  have d9 := ((dS).set 0 (.int .i64 (x))).set 1 (.int .i64 (y))
                  replace d9 := d9.set 2 (.int .i64 (z))
                  go_wp2
                  generalize (World.setCell (World.setCell (World.setCell _ _ _) _ _) _ _) = w16 at d9 ⊢
                  have hQ := d9.head
                  have hQ0 : w16.cell? ⟨w.heap.size, 0, none⟩ = some (.int .i64 (x)) := hQ.cell 0
                  have hQ1 : w16.cell? ⟨w.heap.size, 1, none⟩ = some (.int .i64 (y)) := hQ.cell 1
                  have hQ2 : w16.cell? ⟨w.heap.size, 2, none⟩ = some (.int .i64 (z)) := hQ.cell 2
                  refine bodyPost_ret (v := .tuple #[.int .i64 a, .agg #[.int .i64 (x), .int .i64 (y), .int .i64 (z)]]) (by simp [results, Try.results16, go_sem, hQ0, hQ1, hQ2]) rfl ?_
                  exact ⟨_, _, _, _, rfl, ha, hi3, by first | exact d9.out | exact (d9.below ((Below.refl _ _).drew)).out⟩
                · go_upto_region 8 with (fail)
                  (refine wp_region_still_tail 3 (by kernel_rfl) (by kernel_rfl) ?_; simp only [List.take_succ_cons, List.take_zero, List.drop_succ_cons, List.drop_zero]; (repeat still_step); refine wpStill_nil ?_)
                  have d9 := ((dS).set 0 (.int .i64 (x2))).set 1 (.int .i64 (y2))
                  replace d9 := d9.set 2 (.int .i64 (e2))
                  go_wp2
                  generalize (World.setCell (World.setCell (World.setCell _ _ _) _ _) _ _) = w16 at d9 ⊢
                  have hQ := d9.head
                  have hQ0 : w16.cell? ⟨w.heap.size, 0, none⟩ = some (.int .i64 (x2)) := hQ.cell 0
                  have hQ1 : w16.cell? ⟨w.heap.size, 1, none⟩ = some (.int .i64 (y2)) := hQ.cell 1
                  have hQ2 : w16.cell? ⟨w.heap.size, 2, none⟩ = some (.int .i64 (e2)) := hQ.cell 2
                  refine bodyPost_ret (v := .tuple #[.int .i64 a, .agg #[.int .i64 (x2), .int .i64 (y2), .int .i64 (e2)]]) (by simp [results, Try.results16, go_sem, hQ0, hQ1, hQ2]) rfl ?_
                  exact ⟨_, _, _, _, rfl, ha, hi2, by first | exact d9.out | exact (d9.below ((Below.refl _ _).drew)).out⟩
              exact AllF.nil
            exact AllF.nil
          exact AllF.nil
        refine AllF.cons ?_ ?_
        · refine stepC_val (some 8) (fun u w' => ∃ r : Nat, u = .pointer (some ⟨r, 0, none⟩) ∧ wr.heap.size ≤ r ∧ Dr w.heap.size k (.slice a0 xs.length cap) xs 300 w ((r, #[.int .i64 0, .int .i64 0, .int .i64 0], 30) :: [(F, #[.int .i64 x, .int .i64 y, .int .i64 z], 30), (w.heap.size, #[.int .i64 0, .int .i64 0, .int .i64 0], 30)]) w') (by rfl) (by rfl) (by rfl) (fun _ _ _ ⟨s, h, q, d⟩ hb => ⟨s, h, q, d.below hb⟩) (fun w' hO hD => ⟨.pointer (some ⟨w'.heap.size, 0, none⟩), w'.alloc (.cells #[.int .i64 0, .int .i64 0, .int .i64 0] 30), (by go_simp), (Over.refl _ _).alloc _, ⟨w'.heap.size, rfl, hO.size, hD.alloc _ _⟩⟩) (fun u hne => ?_)
          simp only [Act.put, List.setIfInBounds_toArray, List.set_cons_succ, List.set_cons_zero]
          obtain ⟨w9, hO9, r, rfl, hr, hd9⟩ := hne
          refine wpAnyF_weaken (D2 := Dr w.heap.size k (.slice a0 xs.length cap) xs 300 w ((r, #[.int .i64 0, .int .i64 0, .int .i64 0], 30) :: [(F, #[.int .i64 x, .int .i64 y, .int .i64 z], 30), (w.heap.size, #[.int .i64 0, .int .i64 0, .int .i64 0], 30)])) (fun w' ⟨r', hr', _, d⟩ => by cases hr'; exact d) ?_
          have hne : ∃ w1, Over [k] wr w1 ∧ Dr w.heap.size k (.slice a0 xs.length cap) xs 300 w ((r, #[.int .i64 0, .int .i64 0, .int .i64 0], 30) :: [(F, #[.int .i64 x, .int .i64 y, .int .i64 z], 30), (w.heap.size, #[.int .i64 0, .int .i64 0, .int .i64 0], 30)]) w1 := ⟨w9, hO9, hd9⟩
          clear hO9 hd9
          refine wpAnyF_ready [4] 7 (by kernel_rfl) (by kernel_rfl) (by simp) ?_
          refine AllF.cons ?_ ?_
          · refine stepC_calle (some 31) (fun u w' => ∃ b : Int, u = .int .i64 b ∧ (0 ≤ b ∧ b ≤ 4) ∧ Dr w.heap.size k (.slice a0 xs.length cap) xs 302 w ((r, #[.int .i64 0, .int .i64 0, .int .i64 0], 30) :: [(F, #[.int .i64 x, .int .i64 y, .int .i64 z], 30), (w.heap.size, #[.int .i64 0, .int .i64 0, .int .i64 0], 30)]) w') (by rfl) (by rfl) (by rfl) (fun _ => by go_simp) (fun _ _ _ ⟨y, h, hy, d⟩ hb => ⟨y, h, hy, d.below hb⟩) (fun w' hO hD => (c_pick _ _ _ _ _ (by omega) 5 (by omega) w' hD.cur).mono fun e w2 ⟨b, he, h2, h3, h4, h5⟩ => ⟨_, he, h5, ⟨b, rfl, ⟨h2, (by simp at h3; omega)⟩, hD.go h4 h5⟩⟩) (fun u hne => ?_)
            simp only [Act.put, List.setIfInBounds_toArray, List.set_cons_succ, List.set_cons_zero]
            obtain ⟨w9, hO9, b, rfl, hbb, hd9⟩ := hne
            refine wpAnyF_weaken (D2 := Dr w.heap.size k (.slice a0 xs.length cap) xs 302 w ((r, #[.int .i64 0, .int .i64 0, .int .i64 0], 30) :: [(F, #[.int .i64 x, .int .i64 y, .int .i64 z], 30), (w.heap.size, #[.int .i64 0, .int .i64 0, .int .i64 0], 30)])) (fun w' ⟨r', hr', _, d⟩ => d) ?_
            have hne : ∃ w1, Over [k] wr w1 ∧ Dr w.heap.size k (.slice a0 xs.length cap) xs 302 w ((r, #[.int .i64 0, .int .i64 0, .int .i64 0], 30) :: [(F, #[.int .i64 x, .int .i64 y, .int .i64 z], 30), (w.heap.size, #[.int .i64 0, .int .i64 0, .int .i64 0], 30)]) w1 := ⟨w9, hO9, hd9⟩
            clear hO9 hd9
            apply wpAnyF_hd hne [false, false, false, false, false, true] 6 (fun _ _ h hb => h.below hb) (fun _ _ => trivial) (by kernel_rfl) (by kernel_rfl) (by kernel_rfl) (by kernel_rfl) (by simp)
            · intro E hE hEN hEn; (repeat (first | (refine wpHL_take ?_; go_big_quiet_step (fail); refine wpQuiet_nil ?_) | refine wpHL_skip ?_)); exact wpHL_end rfl
            refine wpAnyF_ready [6] 5 (by kernel_rfl) (by kernel_rfl) (by simp) ?_
            refine AllF.cons ?_ ?_
            · refine stepC_calle (some 33) (fun u w' => ∃ (x2 y2 e2 : Int) (o2 : Bool), u = .tuple #[.agg #[.int .i64 x2, .int .i64 y2, .int .i64 e2], .bool o2] ∧ (I64 x2 ∧ I64 y2 ∧ I64 e2) ∧ Dr w.heap.size k (.slice a0 xs.length cap) xs 302 w ((r, #[.int .i64 0, .int .i64 0, .int .i64 0], 30) :: [(F, #[.int .i64 x, .int .i64 y, .int .i64 z], 30), (w.heap.size, #[.int .i64 0, .int .i64 0, .int .i64 0], 30)]) w') (by rfl) (by rfl) (by rfl) (fun _ => by go_simp; exact ⟨rfl, rfl⟩) (fun _ _ _ ⟨x2, y2, e2, o2, h, hy, d⟩ hb => ⟨x2, y2, e2, o2, h, hy, d.below hb⟩) (fun w' hO hD => by obtain ⟨x2, y2, e2, o2, hi, hc⟩ := HTm.out b w' hbb.1 hbb.2; exact hc.mono fun e w2 ⟨he, hb⟩ => ⟨_, he, .of_below hb, ⟨x2, y2, e2, o2, rfl, hi, hD.below hb⟩⟩) (fun u hne => ?_)
              simp only [Act.put, List.setIfInBounds_toArray, List.set_cons_succ, List.set_cons_zero]
              obtain ⟨w9, hO9, x2, y2, e2, o2, rfl, hi2, hd9⟩ := hne
              refine wpAnyF_weaken (D2 := Dr w.heap.size k (.slice a0 xs.length cap) xs 302 w ((r, #[.int .i64 0, .int .i64 0, .int .i64 0], 30) :: [(F, #[.int .i64 x, .int .i64 y, .int .i64 z], 30), (w.heap.size, #[.int .i64 0, .int .i64 0, .int .i64 0], 30)])) (fun w' ⟨_, _, _, _, _, _, d⟩ => d) ?_
              have hne : ∃ w1, Over [k] wr w1 ∧ Dr w.heap.size k (.slice a0 xs.length cap) xs 302 w ((r, #[.int .i64 0, .int .i64 0, .int .i64 0], 30) :: [(F, #[.int .i64 x, .int .i64 y, .int .i64 z], 30), (w.heap.size, #[.int .i64 0, .int .i64 0, .int .i64 0], 30)]) w1 := ⟨w9, hO9, hd9⟩
              clear hO9 hd9
              apply wpAnyF_hd hne [false, false, false, false, false, false, false, true, true, true] 2 (fun _ _ h hb => h.below hb) (fun _ _ => trivial) (by kernel_rfl) (by kernel_rfl) (by kernel_rfl) (by kernel_rfl) (by simp)
              · intro E hE hEN hEn; (repeat (first | (refine wpHL_take ?_; go_big_quiet_step (fail); refine wpQuiet_nil ?_) | refine wpHL_skip ?_)); exact wpHL_end rfl
              refine wpAnyF_ready [11] 1 (by kernel_rfl) (by kernel_rfl) (by simp) ?_
              refine AllF.cons ?_ ?_
              · refine stepC_store (v := .agg #[.int .i64 x2, .int .i64 y2, .int .i64 e2]) r #[.int .i64 0, .int .i64 0, .int .i64 0] (Dr w.heap.size k (.slice a0 xs.length cap) xs 302 w ((r, #[.int .i64 x2, .int .i64 y2, .int .i64 e2], 30) :: [(F, #[.int .i64 x, .int .i64 y, .int .i64 z], 30), (w.heap.size, #[.int .i64 0, .int .i64 0, .int .i64 0], 30)])) (by rfl) (by rfl) (by rfl) (by rfl) (by rfl) (by rfl) (fun _ => by go_simp) (by rfl) (by simp [Value.cells, one1]) (.inl hr) (fun _ hd => hd.head) (fun _ _ h hb => h.below hb) (fun _ _ hd ho hb => hd.stored ho hb) (fun hne => ?_)
                try simp only [Value.cells]
                apply wpAnyF_hd hne [false, false, false, false, false, false, false, false, false, false, false, false, true] 0 (fun _ _ h hb => h.below hb) (fun _ _ => trivial) (by kernel_rfl) (by kernel_rfl) (by kernel_rfl) (by kernel_rfl) (by simp)
                · intro E hE hEN hEn; (repeat (first | (refine wpHL_take ?_; go_big_quiet_step (fail); refine wpQuiet_nil ?_) | refine wpHL_skip ?_)); exact wpHL_end rfl
                refine wpAnyF_done (by kernel_rfl) (fun Wz hOz hDz => NoPanic.normal ?_) _
                try dsimp only
                clear hne hOz
                have dS := hDz.tail.tail
                have hR := hDz.head
                have hG := hDz.tail.head
                have hE := dS.head
                have hR0 : (Wz).cell? ⟨r, 0, none⟩ = some (.int .i64 x2) := hR.cell 0; have hR1 : (Wz).cell? ⟨r, 1, none⟩ = some (.int .i64 y2) := hR.cell 1; have hR2 : (Wz).cell? ⟨r, 2, none⟩ = some (.int .i64 e2) := hR.cell 2; have hRf0 : (Wz).frozen? ⟨r, 0, none⟩ = false := hR.frozen 0; have hRf1 : (Wz).frozen? ⟨r, 1, none⟩ = false := hR.frozen 1; have hRf2 : (Wz).frozen? ⟨r, 2, none⟩ = false := hR.frozen 2; have hRl : r < (Wz).heap.size := hR.lt
                have hG0 : (Wz).cell? ⟨F, 0, none⟩ = some (.int .i64 x) := hG.cell 0; have hG1 : (Wz).cell? ⟨F, 1, none⟩ = some (.int .i64 y) := hG.cell 1; have hG2 : (Wz).cell? ⟨F, 2, none⟩ = some (.int .i64 z) := hG.cell 2; have hGf0 : (Wz).frozen? ⟨F, 0, none⟩ = false := hG.frozen 0; have hGf1 : (Wz).frozen? ⟨F, 1, none⟩ = false := hG.frozen 1; have hGf2 : (Wz).frozen? ⟨F, 2, none⟩ = false := hG.frozen 2; have hGl : F < (Wz).heap.size := hG.lt
                have hE0 : (Wz).cell? ⟨w.heap.size, 0, none⟩ = some (.int .i64 0) := hE.cell 0; have hE1 : (Wz).cell? ⟨w.heap.size, 1, none⟩ = some (.int .i64 0) := hE.cell 1; have hE2 : (Wz).cell? ⟨w.heap.size, 2, none⟩ = some (.int .i64 0) := hE.cell 2; have hEf0 : (Wz).frozen? ⟨w.heap.size, 0, none⟩ = false := hE.frozen 0; have hEf1 : (Wz).frozen? ⟨w.heap.size, 1, none⟩ = false := hE.frozen 1; have hEf2 : (Wz).frozen? ⟨w.heap.size, 2, none⟩ = false := hE.frozen 2; have hEl : w.heap.size < (Wz).heap.size := hE.lt
                cases o2
                · go_upto_region 9 with (fail)
                  (refine wp_region_still_tail 3 (by kernel_rfl) (by kernel_rfl) ?_; simp only [List.take_succ_cons, List.take_zero, List.drop_succ_cons, List.drop_zero]; (repeat still_step); refine wpStill_nil ?_)
                  have d9 := ((dS).set 0 (.int .i64 (x))).set 1 (.int .i64 (y))
                  replace d9 := d9.set 2 (.int .i64 (z))
                  go_wp2
                  generalize (World.setCell (World.setCell (World.setCell _ _ _) _ _) _ _) = w16 at d9 ⊢
                  have hQ := d9.head
                  have hQ0 : w16.cell? ⟨w.heap.size, 0, none⟩ = some (.int .i64 (x)) := hQ.cell 0
                  have hQ1 : w16.cell? ⟨w.heap.size, 1, none⟩ = some (.int .i64 (y)) := hQ.cell 1
                  have hQ2 : w16.cell? ⟨w.heap.size, 2, none⟩ = some (.int .i64 (z)) := hQ.cell 2
                  refine bodyPost_ret (v := .tuple #[.int .i64 a, .agg #[.int .i64 (x), .int .i64 (y), .int .i64 (z)]]) (by simp [results, Try.results16, go_sem, hQ0, hQ1, hQ2]) rfl ?_
                  exact ⟨_, _, _, _, rfl, ha, hi3, by first | exact d9.out | exact (d9.below ((Below.refl _ _).drew)).out⟩
                · go_upto_region 8 with (fail)
                  (refine wp_region_still_tail 3 (by kernel_rfl) (by kernel_rfl) ?_; simp only [List.take_succ_cons, List.take_zero, List.drop_succ_cons, List.drop_zero]; (repeat still_step); refine wpStill_nil ?_)
                  have d9 := ((dS).set 0 (.int .i64 (x2))).set 1 (.int .i64 (y2))
                  replace d9 := d9.set 2 (.int .i64 (e2))
                  go_wp2
                  generalize (World.setCell (World.setCell (World.setCell _ _ _) _ _) _ _) = w16 at d9 ⊢
                  have hQ := d9.head
                  have hQ0 : w16.cell? ⟨w.heap.size, 0, none⟩ = some (.int .i64 (x2)) := hQ.cell 0
                  have hQ1 : w16.cell? ⟨w.heap.size, 1, none⟩ = some (.int .i64 (y2)) := hQ.cell 1
                  have hQ2 : w16.cell? ⟨w.heap.size, 2, none⟩ = some (.int .i64 (e2)) := hQ.cell 2
                  refine bodyPost_ret (v := .tuple #[.int .i64 a, .agg #[.int .i64 (x2), .int .i64 (y2), .int .i64 (e2)]]) (by simp [results, Try.results16, go_sem, hQ0, hQ1, hQ2]) rfl ?_
                  exact ⟨_, _, _, _, rfl, ha, hi2, by first | exact d9.out | exact (d9.below ((Below.refl _ _).drew)).out⟩
              exact AllF.nil
            exact AllF.nil
          exact AllF.nil
        exact AllF.nil
      refine AllF.cons ?_ ?_
      · refine stepC_val (some 8) (fun u w' => ∃ r : Nat, u = .pointer (some ⟨r, 0, none⟩) ∧ wr.heap.size ≤ r ∧ Dr w.heap.size k (.slice a0 xs.length cap) xs 300 w ((r, #[.int .i64 0, .int .i64 0, .int .i64 0], 30) :: [(F, #[.int .i64 x, .int .i64 y, .int .i64 z], 30), (w.heap.size, #[.int .i64 0, .int .i64 0, .int .i64 0], 30)]) w') (by rfl) (by rfl) (by rfl) (fun _ _ _ ⟨s, h, q, d⟩ hb => ⟨s, h, q, d.below hb⟩) (fun w' hO hD => ⟨.pointer (some ⟨w'.heap.size, 0, none⟩), w'.alloc (.cells #[.int .i64 0, .int .i64 0, .int .i64 0] 30), (by go_simp), (Over.refl _ _).alloc _, ⟨w'.heap.size, rfl, hO.size, hD.alloc _ _⟩⟩) (fun u hne => ?_)
        simp only [Act.put, List.setIfInBounds_toArray, List.set_cons_succ, List.set_cons_zero]
        obtain ⟨w9, hO9, r, rfl, hr, hd9⟩ := hne
        refine wpAnyF_weaken (D2 := Dr w.heap.size k (.slice a0 xs.length cap) xs 300 w ((r, #[.int .i64 0, .int .i64 0, .int .i64 0], 30) :: [(F, #[.int .i64 x, .int .i64 y, .int .i64 z], 30), (w.heap.size, #[.int .i64 0, .int .i64 0, .int .i64 0], 30)])) (fun w' ⟨r', hr', _, d⟩ => by cases hr'; exact d) ?_
        have hne : ∃ w1, Over [k] wr w1 ∧ Dr w.heap.size k (.slice a0 xs.length cap) xs 300 w ((r, #[.int .i64 0, .int .i64 0, .int .i64 0], 30) :: [(F, #[.int .i64 x, .int .i64 y, .int .i64 z], 30), (w.heap.size, #[.int .i64 0, .int .i64 0, .int .i64 0], 30)]) w1 := ⟨w9, hO9, hd9⟩
        clear hO9 hd9
        refine wpAnyF_ready [1] 8 (by kernel_rfl) (by kernel_rfl) (by simp) ?_
        refine AllF.cons ?_ ?_
        · refine stepC_call (v := .agg #[.int .i64 ca, .int .i64 0]) (some 28) (Dr w.heap.size k (.slice a0 xs.length cap) xs 300 w ((r, #[.int .i64 0, .int .i64 0, .int .i64 0], 30) :: [(F, #[.int .i64 x, .int .i64 y, .int .i64 z], 30), (w.heap.size, #[.int .i64 0, .int .i64 0, .int .i64 0], 30)])) (by rfl) (by rfl) (by rfl) (fun _ => by go_simp) (fun _ _ h hb => h.below hb) (fun w' hO hD => (HCv.out w').mono fun e w2 ⟨he, hb⟩ => ⟨he, .of_below hb, hD.below hb⟩) (fun hne => ?_)
          simp only [Act.put, List.setIfInBounds_toArray, List.set_cons_succ, List.set_cons_zero]
          refine wpAnyF_ready [4] 7 (by kernel_rfl) (by kernel_rfl) (by simp) ?_
          refine AllF.cons ?_ ?_
          · refine stepC_calle (some 31) (fun u w' => ∃ b : Int, u = .int .i64 b ∧ (0 ≤ b ∧ b ≤ 4) ∧ Dr w.heap.size k (.slice a0 xs.length cap) xs 302 w ((r, #[.int .i64 0, .int .i64 0, .int .i64 0], 30) :: [(F, #[.int .i64 x, .int .i64 y, .int .i64 z], 30), (w.heap.size, #[.int .i64 0, .int .i64 0, .int .i64 0], 30)]) w') (by rfl) (by rfl) (by rfl) (fun _ => by go_simp) (fun _ _ _ ⟨y, h, hy, d⟩ hb => ⟨y, h, hy, d.below hb⟩) (fun w' hO hD => (c_pick _ _ _ _ _ (by omega) 5 (by omega) w' hD.cur).mono fun e w2 ⟨b, he, h2, h3, h4, h5⟩ => ⟨_, he, h5, ⟨b, rfl, ⟨h2, (by simp at h3; omega)⟩, hD.go h4 h5⟩⟩) (fun u hne => ?_)
            simp only [Act.put, List.setIfInBounds_toArray, List.set_cons_succ, List.set_cons_zero]
            obtain ⟨w9, hO9, b, rfl, hbb, hd9⟩ := hne
            refine wpAnyF_weaken (D2 := Dr w.heap.size k (.slice a0 xs.length cap) xs 302 w ((r, #[.int .i64 0, .int .i64 0, .int .i64 0], 30) :: [(F, #[.int .i64 x, .int .i64 y, .int .i64 z], 30), (w.heap.size, #[.int .i64 0, .int .i64 0, .int .i64 0], 30)])) (fun w' ⟨r', hr', _, d⟩ => d) ?_
            have hne : ∃ w1, Over [k] wr w1 ∧ Dr w.heap.size k (.slice a0 xs.length cap) xs 302 w ((r, #[.int .i64 0, .int .i64 0, .int .i64 0], 30) :: [(F, #[.int .i64 x, .int .i64 y, .int .i64 z], 30), (w.heap.size, #[.int .i64 0, .int .i64 0, .int .i64 0], 30)]) w1 := ⟨w9, hO9, hd9⟩
            clear hO9 hd9
            apply wpAnyF_hd hne [false, false, false, false, false, true] 6 (fun _ _ h hb => h.below hb) (fun _ _ => trivial) (by kernel_rfl) (by kernel_rfl) (by kernel_rfl) (by kernel_rfl) (by simp)
            · intro E hE hEN hEn; (repeat (first | (refine wpHL_take ?_; go_big_quiet_step (fail); refine wpQuiet_nil ?_) | refine wpHL_skip ?_)); exact wpHL_end rfl
            refine wpAnyF_ready [6] 5 (by kernel_rfl) (by kernel_rfl) (by simp) ?_
            refine AllF.cons ?_ ?_
            · refine stepC_calle (some 33) (fun u w' => ∃ (x2 y2 e2 : Int) (o2 : Bool), u = .tuple #[.agg #[.int .i64 x2, .int .i64 y2, .int .i64 e2], .bool o2] ∧ (I64 x2 ∧ I64 y2 ∧ I64 e2) ∧ Dr w.heap.size k (.slice a0 xs.length cap) xs 302 w ((r, #[.int .i64 0, .int .i64 0, .int .i64 0], 30) :: [(F, #[.int .i64 x, .int .i64 y, .int .i64 z], 30), (w.heap.size, #[.int .i64 0, .int .i64 0, .int .i64 0], 30)]) w') (by rfl) (by rfl) (by rfl) (fun _ => by go_simp; exact ⟨rfl, rfl⟩) (fun _ _ _ ⟨x2, y2, e2, o2, h, hy, d⟩ hb => ⟨x2, y2, e2, o2, h, hy, d.below hb⟩) (fun w' hO hD => by obtain ⟨x2, y2, e2, o2, hi, hc⟩ := HTm.out b w' hbb.1 hbb.2; exact hc.mono fun e w2 ⟨he, hb⟩ => ⟨_, he, .of_below hb, ⟨x2, y2, e2, o2, rfl, hi, hD.below hb⟩⟩) (fun u hne => ?_)
              simp only [Act.put, List.setIfInBounds_toArray, List.set_cons_succ, List.set_cons_zero]
              obtain ⟨w9, hO9, x2, y2, e2, o2, rfl, hi2, hd9⟩ := hne
              refine wpAnyF_weaken (D2 := Dr w.heap.size k (.slice a0 xs.length cap) xs 302 w ((r, #[.int .i64 0, .int .i64 0, .int .i64 0], 30) :: [(F, #[.int .i64 x, .int .i64 y, .int .i64 z], 30), (w.heap.size, #[.int .i64 0, .int .i64 0, .int .i64 0], 30)])) (fun w' ⟨_, _, _, _, _, _, d⟩ => d) ?_
              have hne : ∃ w1, Over [k] wr w1 ∧ Dr w.heap.size k (.slice a0 xs.length cap) xs 302 w ((r, #[.int .i64 0, .int .i64 0, .int .i64 0], 30) :: [(F, #[.int .i64 x, .int .i64 y, .int .i64 z], 30), (w.heap.size, #[.int .i64 0, .int .i64 0, .int .i64 0], 30)]) w1 := ⟨w9, hO9, hd9⟩
              clear hO9 hd9
              apply wpAnyF_hd hne [false, false, false, false, false, false, false, true, true, true] 2 (fun _ _ h hb => h.below hb) (fun _ _ => trivial) (by kernel_rfl) (by kernel_rfl) (by kernel_rfl) (by kernel_rfl) (by simp)
              · intro E hE hEN hEn; (repeat (first | (refine wpHL_take ?_; go_big_quiet_step (fail); refine wpQuiet_nil ?_) | refine wpHL_skip ?_)); exact wpHL_end rfl
              refine wpAnyF_ready [11] 1 (by kernel_rfl) (by kernel_rfl) (by simp) ?_
              refine AllF.cons ?_ ?_
              · refine stepC_store (v := .agg #[.int .i64 x2, .int .i64 y2, .int .i64 e2]) r #[.int .i64 0, .int .i64 0, .int .i64 0] (Dr w.heap.size k (.slice a0 xs.length cap) xs 302 w ((r, #[.int .i64 x2, .int .i64 y2, .int .i64 e2], 30) :: [(F, #[.int .i64 x, .int .i64 y, .int .i64 z], 30), (w.heap.size, #[.int .i64 0, .int .i64 0, .int .i64 0], 30)])) (by rfl) (by rfl) (by rfl) (by rfl) (by rfl) (by rfl) (fun _ => by go_simp) (by rfl) (by simp [Value.cells, one1]) (.inl hr) (fun _ hd => hd.head) (fun _ _ h hb => h.below hb) (fun _ _ hd ho hb => hd.stored ho hb) (fun hne => ?_)
                try simp only [Value.cells]
                apply wpAnyF_hd hne [false, false, false, false, false, false, false, false, false, false, false, false, true] 0 (fun _ _ h hb => h.below hb) (fun _ _ => trivial) (by kernel_rfl) (by kernel_rfl) (by kernel_rfl) (by kernel_rfl) (by simp)
                · intro E hE hEN hEn; (repeat (first | (refine wpHL_take ?_; go_big_quiet_step (fail); refine wpQuiet_nil ?_) | refine wpHL_skip ?_)); exact wpHL_end rfl
                refine wpAnyF_done (by kernel_rfl) (fun Wz hOz hDz => NoPanic.normal ?_) _
                try dsimp only
                clear hne hOz
                have dS := hDz.tail.tail
                have hR := hDz.head
                have hG := hDz.tail.head
                have hE := dS.head
                have hR0 : (Wz).cell? ⟨r, 0, none⟩ = some (.int .i64 x2) := hR.cell 0; have hR1 : (Wz).cell? ⟨r, 1, none⟩ = some (.int .i64 y2) := hR.cell 1; have hR2 : (Wz).cell? ⟨r, 2, none⟩ = some (.int .i64 e2) := hR.cell 2; have hRf0 : (Wz).frozen? ⟨r, 0, none⟩ = false := hR.frozen 0; have hRf1 : (Wz).frozen? ⟨r, 1, none⟩ = false := hR.frozen 1; have hRf2 : (Wz).frozen? ⟨r, 2, none⟩ = false := hR.frozen 2; have hRl : r < (Wz).heap.size := hR.lt
                have hG0 : (Wz).cell? ⟨F, 0, none⟩ = some (.int .i64 x) := hG.cell 0; have hG1 : (Wz).cell? ⟨F, 1, none⟩ = some (.int .i64 y) := hG.cell 1; have hG2 : (Wz).cell? ⟨F, 2, none⟩ = some (.int .i64 z) := hG.cell 2; have hGf0 : (Wz).frozen? ⟨F, 0, none⟩ = false := hG.frozen 0; have hGf1 : (Wz).frozen? ⟨F, 1, none⟩ = false := hG.frozen 1; have hGf2 : (Wz).frozen? ⟨F, 2, none⟩ = false := hG.frozen 2; have hGl : F < (Wz).heap.size := hG.lt
                have hE0 : (Wz).cell? ⟨w.heap.size, 0, none⟩ = some (.int .i64 0) := hE.cell 0; have hE1 : (Wz).cell? ⟨w.heap.size, 1, none⟩ = some (.int .i64 0) := hE.cell 1; have hE2 : (Wz).cell? ⟨w.heap.size, 2, none⟩ = some (.int .i64 0) := hE.cell 2; have hEf0 : (Wz).frozen? ⟨w.heap.size, 0, none⟩ = false := hE.frozen 0; have hEf1 : (Wz).frozen? ⟨w.heap.size, 1, none⟩ = false := hE.frozen 1; have hEf2 : (Wz).frozen? ⟨w.heap.size, 2, none⟩ = false := hE.frozen 2; have hEl : w.heap.size < (Wz).heap.size := hE.lt
                cases o2
                · go_upto_region 9 with (fail)
                  (refine wp_region_still_tail 3 (by kernel_rfl) (by kernel_rfl) ?_; simp only [List.take_succ_cons, List.take_zero, List.drop_succ_cons, List.drop_zero]; (repeat still_step); refine wpStill_nil ?_)
                  have d9 := ((dS).set 0 (.int .i64 (x))).set 1 (.int .i64 (y))
                  replace d9 := d9.set 2 (.int .i64 (z))
                  go_wp2
                  generalize (World.setCell (World.setCell (World.setCell _ _ _) _ _) _ _) = w16 at d9 ⊢
                  have hQ := d9.head
                  have hQ0 : w16.cell? ⟨w.heap.size, 0, none⟩ = some (.int .i64 (x)) := hQ.cell 0
                  have hQ1 : w16.cell? ⟨w.heap.size, 1, none⟩ = some (.int .i64 (y)) := hQ.cell 1
                  have hQ2 : w16.cell? ⟨w.heap.size, 2, none⟩ = some (.int .i64 (z)) := hQ.cell 2
                  refine bodyPost_ret (v := .tuple #[.int .i64 a, .agg #[.int .i64 (x), .int .i64 (y), .int .i64 (z)]]) (by simp [results, Try.results16, go_sem, hQ0, hQ1, hQ2]) rfl ?_
                  exact ⟨_, _, _, _, rfl, ha, hi3, by first | exact d9.out | exact (d9.below ((Below.refl _ _).drew)).out⟩
                · go_upto_region 8 with (fail)
                  (refine wp_region_still_tail 3 (by kernel_rfl) (by kernel_rfl) ?_; simp only [List.take_succ_cons, List.take_zero, List.drop_succ_cons, List.drop_zero]; (repeat still_step); refine wpStill_nil ?_)
                  have d9 := ((dS).set 0 (.int .i64 (x2))).set 1 (.int .i64 (y2))
                  replace d9 := d9.set 2 (.int .i64 (e2))
                  go_wp2
                  generalize (World.setCell (World.setCell (World.setCell _ _ _) _ _) _ _) = w16 at d9 ⊢
                  have hQ := d9.head
                  have hQ0 : w16.cell? ⟨w.heap.size, 0, none⟩ = some (.int .i64 (x2)) := hQ.cell 0
                  have hQ1 : w16.cell? ⟨w.heap.size, 1, none⟩ = some (.int .i64 (y2)) := hQ.cell 1
                  have hQ2 : w16.cell? ⟨w.heap.size, 2, none⟩ = some (.int .i64 (e2)) := hQ.cell 2
                  refine bodyPost_ret (v := .tuple #[.int .i64 a, .agg #[.int .i64 (x2), .int .i64 (y2), .int .i64 (e2)]]) (by simp [results, Try.results16, go_sem, hQ0, hQ1, hQ2]) rfl ?_
                  exact ⟨_, _, _, _, rfl, ha, hi2, by first | exact d9.out | exact (d9.below ((Below.refl _ _).drew)).out⟩
              exact AllF.nil
            exact AllF.nil
          exact AllF.nil
        exact AllF.nil
      exact AllF.nil
end Go.Proofs.Ytcnfjapoopdiaaa
