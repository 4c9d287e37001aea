/- Walks: numbers and curves drawn, with the blocks that stay as they are. -/
import Derived.Test.YtpnpidepkfnofaaGreatDoorDrawT
import Derived.Deep.Cut
import Derived.BigRegion
namespace Go.Proofs.YtpnpidepkfnofaaGreatDoor
open Go.RowKit

theorem RdB.set {w : World} {B S : Nat} {v x : Value} {xs : List Int} {o : Nat} (h : RdB w B v xs) (hS : B ≤ S) : RdB (w.setCell ⟨S, o, none⟩ x) B v xs := by
  obtain ⟨a, cap, hv, hm, hc⟩ := h
  refine ⟨a, cap, hv, hm, fun i hi => ?_⟩
  obtain ⟨g, o', ha, h1, h2, h3, h4⟩ := hc i hi
  refine ⟨g, o', ha, ?_, h2, h3, h4⟩
  exact (World.cell?_of_block (w := w) (Below.heap_setCell _ _ _ _ (by show g ≠ S; omega))).trans h1
theorem Over.sub {ex ex' : List Nat} {W w : World} (h : Over ex W w) (hs : ∀ x ∈ ex, x ∈ ex') : Over ex' W w := ⟨h.os, h.tape, h.output, h.size, fun k hk hn => h.block k hk fun hm => hn (hs k hm)⟩
/-- at world w at most n numbers were drawn at cursor k since w0; the blocks bl are new since then, and known whole -/
structure Dr (B k : Nat) (v : Value) (xs : List Int) (n : Nat) (w0 : World) (bl : List (Nat × Array Value × TypeId)) (w : World) : Prop where
  cur : Cur B k v xs n w
  ovr : Over [k] w0 w
  mem : MemL bl w
  far : ∀ b ∈ bl, b.1 ≠ k ∧ w0.heap.size ≤ b.1 ∧ B ≤ b.1
  dif : bl.Pairwise (fun a b => a.1 ≠ b.1)
section
variable {B k n : Nat} {v : Value} {xs : List Int} {w0 w w1 : World} {bl : List (Nat × Array Value × TypeId)} {S : Nat} {cs : Array Value} {T : TypeId}
theorem Dr.start (h : Cur B k v xs n w) : Dr B k v xs n w [] w := ⟨h, Over.refl _ _, (fun _ hx => (List.not_mem_nil hx).elim), (fun _ hb => (List.not_mem_nil hb).elim), List.Pairwise.nil⟩
theorem Dr.skip (d : Dr B k v xs n w0 bl w) (o : Obj) : Dr B k v xs n w0 bl (w.alloc o) :=
  ⟨d.cur.below ((Below.refl _ _).alloc (Nat.le_refl _) _), d.ovr.alloc o, fun x hx => (d.mem x hx).alloc o, d.far, d.dif⟩
theorem Dr.alloc (d : Dr B k v xs n w0 bl w) (cs : Array Value) (T : TypeId) : Dr B k v xs n w0 ((w.heap.size, cs, T) :: bl) (w.alloc (.cells cs T)) := by
  have hk := d.cur.2.1
  have hB := d.cur.1
  have hs := d.ovr.size
  refine ⟨(d.skip _).cur, (d.skip _).ovr, fun x hx => ?_, fun b hb => ?_, ?_⟩
  · rcases List.mem_cons.1 hx with rfl | hx
    · exact Blk.new w cs T
    · exact (d.skip _).mem x hx
  · rcases List.mem_cons.1 hb with rfl | hb
    · exact ⟨by show w.heap.size ≠ k; omega, hs, by show B ≤ w.heap.size; omega⟩
    · exact d.far b hb
  · refine List.pairwise_cons.2 ⟨fun b hb => ?_, d.dif⟩
    have := Blk.lt (d.mem b hb)
    show w.heap.size ≠ b.1
    omega
theorem Dr.go {m : Nat} (d : Dr B k v xs n w0 bl w) (hc : Cur B k v xs m w1) (ho : Over [k] w w1) : Dr B k v xs m w0 bl w1 :=
  ⟨hc, d.ovr.trans ho, fun x hx => (d.mem x hx).over ho (by simpa using (d.far x hx).1), d.far, d.dif⟩
theorem Dr.below (d : Dr B k v xs n w0 bl w) (hb : Below w.heap.size w w1) : Dr B k v xs n w0 bl w1 := d.go (d.cur.below hb) (.of_below hb)
theorem Dr.le {m : Nat} (d : Dr B k v xs n w0 bl w) (h : n ≤ m) : Dr B k v xs m w0 bl w := ⟨d.cur.le h, d.ovr, d.mem, d.far, d.dif⟩
theorem Dr.swap {a b : Nat × Array Value × TypeId} (d : Dr B k v xs n w0 (a :: b :: bl) w) : Dr B k v xs n w0 (b :: a :: bl) w := by
  refine ⟨d.cur, d.ovr, fun x hx => d.mem x ?_, fun x hx => d.far x ?_, ?_⟩
  · simp only [List.mem_cons] at hx ⊢; rcases hx with h | h | h <;> simp [h]
  · simp only [List.mem_cons] at hx ⊢; rcases hx with h | h | h <;> simp [h]
  · have h := d.dif
    simp only [List.pairwise_cons, List.mem_cons] at h ⊢
    refine ⟨fun x hx => ?_, fun x hx => h.1 x (.inr hx), h.2.2⟩
    rcases hx with rfl | hx
    · exact fun e => h.1 b (.inl rfl) e.symm
    · exact h.2.1 x hx
theorem Dr.tail {a : Nat × Array Value × TypeId} (d : Dr B k v xs n w0 (a :: bl) w) : Dr B k v xs n w0 bl w := ⟨d.cur, d.ovr, fun x hx => d.mem x (by simp [hx]), fun x hx => d.far x (by simp [hx]), (List.pairwise_cons.1 d.dif).2⟩
theorem Dr.head (d : Dr B k v xs n w0 ((S, cs, T) :: bl) w) : Blk S cs T w := d.mem (S, cs, T) (by simp)
theorem Dr.set (d : Dr B k v xs n w0 ((S, cs, T) :: bl) w) (o : Nat) (x : Value) : Dr B k v xs n w0 ((S, cs.setIfInBounds o x, T) :: bl) (w.setCell ⟨S, o, none⟩ x) := by
  have hf := d.far (S, cs, T) (by simp)
  have hf1 : S ≠ k := hf.1
  have hf2 : w0.heap.size ≤ S := hf.2.1
  have hf3 : B ≤ S := hf.2.2
  obtain ⟨h1, h2, h3, a, s, h4, h5, h6, h7⟩ := d.cur
  refine ⟨⟨h1, by simpa [World.setCell] using h2, h3.set hf3, a, s, h4, h5, h6, h7.far (by show k ≠ S; omega) _⟩, d.ovr.setCell (.inl hf2) x, fun y hy => ?_, fun b hb => ?_, ?_⟩
  · rcases List.mem_cons.1 hy with rfl | hy
    · exact d.head.set o x
    · refine (d.mem y (by simp [hy])).far ?_ _
      exact fun e => (List.pairwise_cons.1 d.dif).1 y hy e.symm
  · rcases List.mem_cons.1 hb with rfl | hb
    · exact hf
    · exact d.far b (by simp [hb])
  · have := List.pairwise_cons.1 d.dif
    exact List.pairwise_cons.2 ⟨fun b hb => this.1 b hb, this.2⟩
end
section
variable {B k n : Nat} {v : Value} {xs : List Int} {w0 w w1 : World} {bl : List (Nat × Array Value × TypeId)} {S : Nat} {T : TypeId} {a b c : Value}
theorem Dr.s0 (d : Dr B k v xs n w0 ((S, #[a, b], T) :: bl) w) (x : Value) : Dr B k v xs n w0 ((S, #[x, b], T) :: bl) (w.setCell ⟨S, 0, none⟩ x) := d.set 0 x
theorem Dr.s1 (d : Dr B k v xs n w0 ((S, #[a, b], T) :: bl) w) (x : Value) : Dr B k v xs n w0 ((S, #[a, x], T) :: bl) (w.setCell ⟨S, 1, none⟩ x) := d.set 1 x
theorem Dr.s01 (d : Dr B k v xs n w0 ((S, #[a, b], T) :: bl) w) (x y : Value) : Dr B k v xs n w0 ((S, #[x, y], T) :: bl) ((w.setCell ⟨S, 0, none⟩ x).setCell ⟨S, 1, none⟩ y) := (d.set 0 x).set 1 y
theorem Dr.s012 (d : Dr B k v xs n w0 ((S, #[a, b, c], T) :: bl) w) (x y z : Value) : Dr B k v xs n w0 ((S, #[x, y, z], T) :: bl) (((w.setCell ⟨S, 0, none⟩ x).setCell ⟨S, 1, none⟩ y).setCell ⟨S, 2, none⟩ z) := ((d.set 0 x).set 1 y).set 2 z
theorem Dr.two (d : Dr B k v xs n w0 ((S, #[a, b], T) :: bl) w) : w.cell? ⟨S, 0, none⟩ = some a ∧ w.cell? ⟨S, 1, none⟩ = some b ∧ w.frozen? ⟨S, 0, none⟩ = false ∧ w.frozen? ⟨S, 1, none⟩ = false := ⟨d.head.cell 0, d.head.cell 1, d.head.frozen 0, d.head.frozen 1⟩
theorem Dr.three (d : Dr B k v xs n w0 ((S, #[a, b, c], T) :: bl) w) : w.cell? ⟨S, 0, none⟩ = some a ∧ w.cell? ⟨S, 1, none⟩ = some b ∧ w.cell? ⟨S, 2, none⟩ = some c ∧ w.frozen? ⟨S, 0, none⟩ = false ∧ w.frozen? ⟨S, 1, none⟩ = false ∧ w.frozen? ⟨S, 2, none⟩ = false := ⟨d.head.cell 0, d.head.cell 1, d.head.cell 2, d.head.frozen 0, d.head.frozen 1, d.head.frozen 2⟩
theorem RdB.overS {S : Nat} (h : RdB w B v xs) (ho : Over [S] w w1) (hB : B ≤ w.heap.size) (hS : B ≤ S) : RdB w1 B v xs := h.over ho hB hS
theorem Dr.stored {S : Nat} {T : TypeId} {cs cs' : Array Value} (d : Dr B k v xs n w0 ((S, cs, T) :: bl) w) (ho : Over [S] w w1) (hb : Blk S cs' T w1) : Dr B k v xs n w0 ((S, cs', T) :: bl) w1 := by
  have hf := d.far (S, cs, T) (by simp)
  have hf1 : S ≠ k := hf.1
  have hf2 : w0.heap.size ≤ S := hf.2.1
  have hf3 : B ≤ S := hf.2.2
  have hs := ho.size
  obtain ⟨h1, h2, h3, a, s, h4, h5, h6, h7⟩ := d.cur
  refine ⟨⟨h1, Nat.lt_of_lt_of_le h2 hs, h3.over ho (by omega) hf3, a, s, h4, h5, h6, h7.over ho (by simp; omega)⟩, ?_, fun y hy => ?_, fun b hb => ?_, ?_⟩
  · exact ⟨ho.os.trans d.ovr.os, ho.tape.trans d.ovr.tape, ho.output.trans d.ovr.output, Nat.le_trans d.ovr.size ho.size, fun j hj hn => (ho.block j (Nat.lt_of_lt_of_le hj d.ovr.size) (by simp; omega)).trans (d.ovr.block j hj hn)⟩
  · rcases List.mem_cons.1 hy with rfl | hy
    · exact hb
    · exact (d.mem y (by simp [hy])).over ho (by simpa using fun e => (List.pairwise_cons.1 d.dif).1 y hy e.symm)
  · rcases List.mem_cons.1 hb with rfl | hb
    · exact hf
    · exact d.far b (by simp [hb])
  · have := List.pairwise_cons.1 d.dif
    exact List.pairwise_cons.2 ⟨fun b hb => this.1 b hb, this.2⟩
/-- what a drawing function leaves -/
theorem Dr.out (d : Dr w0.heap.size k v xs n w0 bl w) : Below w0.heap.size w0 w :=
  d.ovr.belowGe (Below.refl _ _) (Nat.le_refl _) (by have := d.cur.1; simpa using this)
/-- a cursor made anew, no block ahead of it -/
theorem Dr.make0 (h : RdB w w.heap.size v xs) : Dr w.heap.size w.heap.size v xs 0 w [] (w.alloc (.cells #[v, .int .i64 0, .int .u64 0] 64)) :=
  ⟨Cur.new h, (Over.refl _ _).alloc _, (fun _ hx => (List.not_mem_nil hx).elim), (fun _ hb => (List.not_mem_nil hb).elim), List.Pairwise.nil⟩
/-- a cursor made anew behind one block -/
theorem Dr.make1 (h : RdB w w.heap.size v xs) (cs : Array Value) (T : TypeId) : Dr w.heap.size (w.heap.size + 1) v xs 0 w [(w.heap.size, cs, T)] ((w.alloc (.cells cs T)).alloc (.cells #[v, .int .i64 0, .int .u64 0] 64)) := by
  have h1 := h.below (w1 := w.alloc (.cells cs T)) ((Below.refl _ _).alloc (Nat.le_refl _) _) (Nat.le_refl _)
  have h2 := h1.below (w1 := (w.alloc (.cells cs T)).alloc (.cells #[v, .int .i64 0, .int .u64 0] 64)) ((Below.refl _ _).alloc (Nat.le_refl _) _) (by simp)
  refine ⟨⟨by omega, by simp, h2, 0, 0, Nat.le_refl _, by omega, by omega, ?_⟩, ((Over.refl _ _).alloc _).alloc _, fun x hx => ?_, fun b hb => ?_, by simp⟩
  · have := Blk.new (w.alloc (.cells cs T)) #[v, .int .i64 0, .int .u64 0] 64
    rw [World.size_alloc] at this
    exact this
  · rw [List.mem_singleton] at hx
    subst hx
    exact (Blk.new w cs T).alloc _
  · rw [List.mem_singleton] at hb
    subst hb
    exact ⟨by show w.heap.size ≠ w.heap.size + 1; omega, Nat.le_refl _, Nat.le_refl _⟩
/-- a cursor made anew behind two blocks -/
theorem Dr.make2 (h : RdB w w.heap.size v xs) (cs cs' : Array Value) (T T' : TypeId) :
    Dr w.heap.size (w.heap.size + 1 + 1) v xs 0 w [(w.heap.size, cs, T), (w.heap.size + 1, cs', T')] (((w.alloc (.cells cs T)).alloc (.cells cs' T')).alloc (.cells #[v, .int .i64 0, .int .u64 0] 64)) := by
  have h1 := h.below (w1 := w.alloc (.cells cs T)) ((Below.refl _ _).alloc (Nat.le_refl _) _) (Nat.le_refl _)
  have h2 := h1.below (w1 := (w.alloc (.cells cs T)).alloc (.cells cs' T')) ((Below.refl _ _).alloc (Nat.le_refl _) _) (by simp)
  have h3 := h2.below (w1 := ((w.alloc (.cells cs T)).alloc (.cells cs' T')).alloc (.cells #[v, .int .i64 0, .int .u64 0] 64)) ((Below.refl _ _).alloc (Nat.le_refl _) _) (by simp; omega)
  refine ⟨⟨by omega, by simp, h3, 0, 0, Nat.le_refl _, by omega, by omega, ?_⟩, (((Over.refl _ _).alloc _).alloc _).alloc _, fun x hx => ?_, fun b hb => ?_, by simp⟩
  · have := Blk.new ((w.alloc (.cells cs T)).alloc (.cells cs' T')) #[v, .int .i64 0, .int .u64 0] 64
    rw [World.size_alloc, World.size_alloc] at this
    exact this
  · simp only [List.mem_cons, List.not_mem_nil, or_false] at hx
    rcases hx with rfl | rfl
    · exact ((Blk.new w cs T).alloc _).alloc _
    · have := (Blk.new (w.alloc (.cells cs T)) cs' T').alloc (.cells #[v, .int .i64 0, .int .u64 0] 64)
      rw [World.size_alloc] at this
      exact this
  · simp only [List.mem_cons, List.not_mem_nil, or_false] at hb
    rcases hb with rfl | rfl
    · exact ⟨by show w.heap.size ≠ w.heap.size + 1 + 1; omega, Nat.le_refl _, Nat.le_refl _⟩
    · exact ⟨by show w.heap.size + 1 ≠ w.heap.size + 1 + 1; omega, by show w.heap.size ≤ w.heap.size + 1; omega, by show w.heap.size ≤ w.heap.size + 1; omega⟩
end
/-- a number, drawn -/
def NumD (B k : Nat) (v : Value) (xs : List Int) (n : Nat) (w0 : World) (bl : List (Nat × Array Value × TypeId)) (lo hi : Int) (e : Ending) (w' : World) : Prop :=
  ∃ b : Int, e = .returned (.int .i64 b) ∧ (lo ≤ b ∧ b ≤ hi) ∧ Dr B k v xs n w0 bl w'
def BoolD (B k : Nat) (v : Value) (xs : List Int) (n : Nat) (w0 : World) (bl : List (Nat × Array Value × TypeId)) (e : Ending) (w' : World) : Prop :=
  ∃ b : Bool, e = .returned (.bool b) ∧ Dr B k v xs n w0 bl w'
def AmD (B k : Nat) (v : Value) (xs : List Int) (n : Nat) (w0 : World) (bl : List (Nat × Array Value × TypeId)) (L : List Int) (e : Ending) (w' : World) : Prop :=
  ∃ b : Int, e = .returned (.int .i64 b) ∧ b ∈ L ∧ Dr B k v xs n w0 bl w'
section
variable {B k n : Nat} {v : Value} {xs : List Int} {w0 w : World} {bl : List (Nat × Array Value × TypeId)}
theorem d_pick (d : Dr B k v xs n w0 bl w) (hn : n ≤ 900000) (m : Int) (hm : 0 ≤ m ∧ m ≤ 1000000) :
    Calls Tryz.prog 43 #[.pointer (some ⟨k, 0, none⟩), .int .i64 m] w (NumD B k v xs (n + 2) w0 bl 0 (if m ≤ 1 then 0 else m - 1)) :=
  (c_pick B k v xs n hn m hm w d.cur).mono fun _ _ ⟨b, h1, h2, h3, h4, h5⟩ => ⟨b, h1, ⟨h2, h3⟩, d.go h4 h5⟩
theorem d_one (d : Dr B k v xs n w0 bl w) (hn : n ≤ 900000) (m : Int) (hm : 0 ≤ m ∧ m ≤ 1000000) :
    Calls Tryz.prog 42 #[.pointer (some ⟨k, 0, none⟩), .int .i64 m] w (BoolD B k v xs (n + 2) w0 bl) :=
  (c_one B k v xs n hn m hm w d.cur).mono fun _ _ ⟨b, h1, h4, h5⟩ => ⟨b, h1, d.go h4 h5⟩
theorem d_among (d : Dr B k v xs n w0 bl w) (hn : n ≤ 900000) (L : List Int) (hL : 1 ≤ L.length ∧ L.length ≤ 200) :
    Calls Tryz.prog 45 #[.pointer (some ⟨k, 0, none⟩), .slice (some ⟨w.heap.size, 0, none⟩) L.length L.length] (w.alloc (.cells (L.map (Value.int .i64)).toArray 3)) (AmD B k v xs (n + 2) w0 bl L) := by
  have hk := d.cur.2.1
  exact (c_among B k v xs n hn L hL w.heap.size (by omega) _ (d.skip _).cur (Blk.new w _ _)).mono fun _ _ ⟨b, h1, h2, h4, h5⟩ => ⟨b, h2, h1, (d.skip _).go h4 h5⟩
end
end Go.Proofs.YtpnpidepkfnofaaGreatDoor
