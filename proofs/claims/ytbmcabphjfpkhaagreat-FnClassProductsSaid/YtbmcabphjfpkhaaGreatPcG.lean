/- Plain: groups of codes; a group has a power of two codes. -/
import Derived.Test.YtbmcabphjfpkhaaGreatPcQ
namespace Go.Proofs.YtbmcabphjfpkhaaGreat

theorem xor_back (d x : Nat) : d ^^^ (d ^^^ x) = x := by rw [← Nat.xor_assoc, Nat.xor_self, Nat.zero_xor]
theorem xor_inj {d x y : Nat} (h : d ^^^ x = d ^^^ y) : x = y := by rw [← xor_back d x, h, xor_back]
/-- a group of codes, none twice -/
def Grp (L : List Nat) : Prop := 0 ∈ L ∧ (∀ x ∈ L, ∀ y ∈ L, x ^^^ y ∈ L) ∧ L.Nodup
theorem Grp.one : Grp [0] := ⟨by simp, by simp, by simp⟩
theorem Grp.step {L : List Nat} {d : Nat} (h : Grp L) (hd : d ∉ L) : Grp (L ++ L.map (d ^^^ ·)) := by
  obtain ⟨h0, h1, h2⟩ := h
  refine ⟨by simp [h0], fun x hx y hy => ?_, ?_⟩
  · rw [List.mem_append, List.mem_map] at hx hy ⊢
    rcases hx with hx | ⟨x', hx, rfl⟩ <;> rcases hy with hy | ⟨y', hy, rfl⟩
    · exact .inl (h1 x hx y hy)
    · exact .inr ⟨x ^^^ y', h1 x hx y' hy, by rw [← Nat.xor_assoc, ← Nat.xor_assoc, Nat.xor_comm d x]⟩
    · exact .inr ⟨x' ^^^ y, h1 x' hx y hy, by rw [Nat.xor_assoc]⟩
    · refine .inl ?_
      have e : (d ^^^ x') ^^^ (d ^^^ y') = x' ^^^ y' := by rw [Nat.xor_comm d x', Nat.xor_assoc, xor_back]
      rw [e]
      exact h1 x' hx y' hy
  · rw [List.nodup_append]
    refine ⟨h2, ?_, fun a ha b hb hab => ?_⟩
    · unfold List.Nodup at h2 ⊢
      rw [List.pairwise_map]
      exact h2.imp fun hne he => hne (xor_inj he)
    · rw [List.mem_map] at hb
      obtain ⟨x, hx, rfl⟩ := hb
      apply hd
      have e : d = a ^^^ x := by rw [hab, Nat.xor_assoc, Nat.xor_self, Nat.xor_zero]
      rw [e]
      exact h1 a ha x hx
/-- the least group with some codes -/
def genC : List Nat → List Nat → List Nat
  | out, [] => out
  | out, d :: ds => genC (if d ∈ out then out else out ++ out.map (d ^^^ ·)) ds
theorem gen_grp : ∀ (ds out : List Nat) (j : Nat), Grp out → out.length = 2 ^ j → Grp (genC out ds) ∧ (∃ i, (genC out ds).length = 2 ^ i ∧ i ≤ j + ds.length) ∧ (∀ x ∈ out, x ∈ genC out ds) ∧ (∀ x ∈ ds, x ∈ genC out ds)
  | [], out, j, h, hl => ⟨h, ⟨j, hl, by simp⟩, fun x hx => hx, fun x hx => by simp at hx⟩
  | d :: ds, out, j, h, hl => by
    unfold genC
    by_cases hd : d ∈ out
    · rw [if_pos hd]
      obtain ⟨h1, ⟨i, h2, h3⟩, h4, h5⟩ := gen_grp ds out j h hl
      refine ⟨h1, ⟨i, h2, by simp; omega⟩, h4, fun x hx => ?_⟩
      rcases List.mem_cons.1 hx with rfl | hx
      · exact h4 _ hd
      · exact h5 x hx
    · rw [if_neg hd]
      obtain ⟨h1, ⟨i, h2, h3⟩, h4, h5⟩ := gen_grp ds (out ++ out.map (d ^^^ ·)) (j + 1) (h.step hd) (by rw [List.length_append, List.length_map, hl, Nat.pow_succ]; omega)
      refine ⟨h1, ⟨i, h2, by simp; omega⟩, fun x hx => h4 x (by simp [hx]), fun x hx => ?_⟩
      rcases List.mem_cons.1 hx with rfl | hx
      · refine h4 _ ?_
        rw [List.mem_append, List.mem_map]
        exact .inr ⟨0, h.1, Nat.xor_zero _⟩
      · exact h5 x hx
theorem gen_sub {S : List Nat} (hS : ∀ x ∈ S, ∀ y ∈ S, x ^^^ y ∈ S) : ∀ (ds out : List Nat), (∀ x ∈ out, x ∈ S) → (∀ x ∈ ds, x ∈ S) → ∀ x ∈ genC out ds, x ∈ S
  | [], out, h, _, x, hx => h x hx
  | d :: ds, out, h, hd, x, hx => by
    unfold genC at hx
    refine gen_sub hS ds _ (fun y hy => ?_) (fun y hy => hd y (by simp [hy])) x hx
    split at hy
    · exact h y hy
    · rw [List.mem_append, List.mem_map] at hy
      rcases hy with hy | ⟨z, hz, rfl⟩
      · exact h y hy
      · exact hS d (hd d (by simp)) z (h z hz)
theorem nodup_len : ∀ (L M : List Nat), L.Nodup → (∀ x ∈ L, x ∈ M) → L.length ≤ M.length
  | [], _, _, _ => by simp
  | a :: L, M, hn, h => by
    have ha := h a (by simp)
    have h1 := List.length_erase_of_mem ha
    have h2 := List.length_pos_of_mem ha
    have h3 := nodup_len L (M.erase a) (List.nodup_cons.1 hn).2 fun x hx => by
      have hne : x ≠ a := fun e => (List.nodup_cons.1 hn).1 (by rw [← e]; exact hx)
      rw [List.mem_erase_of_ne hne]
      exact h x (by simp [hx])
    simp only [List.length_cons]
    omega
theorem Grp.pow {L : List Nat} (h : Grp L) : ∃ k, L.length = 2 ^ k := by
  obtain ⟨h1, ⟨i, h2, _⟩, _, h5⟩ := gen_grp L [0] 0 Grp.one rfl
  refine ⟨i, ?_⟩
  have a := nodup_len L (genC [0] L) h.2.2 h5
  have b := nodup_len (genC [0] L) L h1.2.2 (gen_sub h.2.1 L [0] (by simp [h.1]) (fun x hx => hx))
  omega
end Go.Proofs.YtbmcabphjfpkhaaGreat
