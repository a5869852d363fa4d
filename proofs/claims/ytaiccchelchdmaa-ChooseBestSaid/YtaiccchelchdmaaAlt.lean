/- An abstract layer over the walk of Go code: loops and cuts that forget one's own memory. -/
import Derived.Test.YtaiccchelchdmaaAlr
namespace Go.Proofs.Al
open Go
set_option linter.unusedVariables false
set_option linter.unusedSimpArgs false
variable {P : Program} {n : Nat} {Q : Exit → AT → AH → Prop} {t : AT} {σ : AH}
theorem AT.subw.pz {σ ρ : AH} {d : Nat} {x y y' : AV} {s t : AT} (h : t.get d = some y) (hp : Pz σ ρ y y') (hw : Wk y' x) (k : AT.subw σ ρ s t) : AT.subw σ ρ ((d, x) :: s) t := ⟨⟨y, y', h, hp, hw⟩, k⟩
/-- A loop whose rounds may leave memory of their own behind that is written no more. -/
theorem aloopz {c : Code} {ι : Type _} (I : ι → Prop) (μ : ι → Nat) (T : ι → AT) (S : ι → AH) (i₀ : ι) (h₀ : I i₀) (hT : AT.subw σ (S i₀) (T i₀) t) (hS : Sub (S i₀) σ)
    (round : ∀ i, I i → AWp P n c (AEx.then (fun t' σ' => ∃ j, I j ∧ μ j < μ i ∧ Sub (S j) σ' ∧ AT.subw σ' (S j) (T j) t') Q) (T i) (S i)) : AWp P n (.loop c) Q t σ := by
  intro Φ w a hW ht hd
  let J : ι → Act → World → Prop := fun i a w => ∃ Φ', I i ∧ Φ.le Φ' ∧ WR Φ' (S i) w ∧ TR Φ' n (T i) a ∧ a.defers = []
  have key : ∀ m, ∀ i, μ i = m → ∀ a w, J i a w → ∀ (b : Frame) (k : List Item) (cs : List Frame),
      ∃ e a' w', Post Φ n Q e a' w' ∧ Arrives P (lone (b.at a (.code c :: .inLoop c :: k)) cs w) b k cs e a' w' := by
    intro m
    induction m using Nat.strongRecOn with
    | _ m ih =>
      intro i hm a w ⟨Φ', hI, hle, hW, ht, hd⟩ b k cs
      obtain ⟨e, a₁, w₁, hq, harr⟩ := round i hI Φ' w a hW ht hd b (.inLoop c :: k) cs
      cases e with
      | normal =>
        obtain ⟨t', σ', Φ'', ⟨j, hj, hlt, hs, hz⟩, h2, h3, h4, h5⟩ := hq
        obtain ⟨Φ3, m1, m2, m3⟩ := freeze h3 hs
        obtain ⟨e₂, a₂, w₂, hq₂, harr₂⟩ := ih (μ j) (hm ▸ hlt) j rfl a₁ w₁ ⟨Φ3, hj, (hle.trans h2).trans m1, m2, hz.tr m1 m3 h4, h5⟩ b k cs
        exact ⟨e₂, a₂, w₂, hq₂, .of_steps (Steps.trans harr (.one step_inLoop)) harr₂⟩
      | exit id => exact ⟨_, a₁, w₁, Post.mono hle (fun _ _ _ h => h) hq, .pass (x := .inLoop c) rfl (fun _ _ => .inl (by simp)) harr⟩
      | goto l => exact ⟨_, a₁, w₁, Post.mono hle (fun _ _ _ h => h) hq, .pass (x := .inLoop c) rfl (fun _ _ => .inl (by simp)) harr⟩
      | ret => exact ⟨_, a₁, w₁, Post.mono hle (fun _ _ _ h => h) hq, .pass (x := .inLoop c) rfl (fun _ _ => .inl (by simp)) harr⟩
      | panic ch => exact ⟨_, a₁, w₁, Post.mono hle (fun _ _ _ h => h) hq, .pass (x := .inLoop c) rfl (fun _ _ => .inl (by simp)) harr⟩
      | outgrown => exact ⟨_, a₁, w₁, Post.mono hle (fun _ _ _ h => h) hq, .pass (x := .inLoop c) rfl (fun _ _ => .inl (by simp)) harr⟩
  intro b k cs
  obtain ⟨Φ0, m1, m2, m3⟩ := freeze hW hS
  obtain ⟨e, a', w', hq, harr⟩ := key _ i₀ rfl a w ⟨Φ0, h₀, m1, m2, hT.tr m1 m3 ht, hd⟩ b k cs
  exact ⟨e, a', w', hq, .of_steps (.one step_loop) harr⟩
/-- What is known may be told anew, less of it, and memory of one's own be forgotten. -/
theorem afreezew {c : Code} (s : AT) (ρ : AH) (hs : Sub ρ σ) (ht : AT.subw σ ρ s t) (h : AWp P n c Q s ρ) : AWp P n c Q t σ := by
  intro Φ w a hW hT hd
  obtain ⟨Φ', m1, m2, m3⟩ := freeze hW hs
  exact Go.wp_mono (h Φ' w a m2 (ht.tr m1 m3 hT) hd) fun _ _ _ hp => hp.mono m1 fun _ _ _ h => h
theorem Keep.nil : Keep [] σ := fun _ h => by simp at h
theorem Keep.cons {F : Fr} {i b : Nat} {x : Blk} (h : σ b = some x) (k : Keep F σ) : Keep ((i, b, x) :: F) σ := fun f hf => by
  rcases List.mem_cons.1 hf with rfl | hf
  · exact h
  · exact k f hf
theorem get3a {a b c : Nat} {x y w : Blk} (h : b ≠ a) (h' : c ≠ a) : (((σ.set a x).set b y).set c w) a = some x := by
  rw [AH.set_ne (Ne.symm h'), AH.set_ne (Ne.symm h)]; exact AH.set_self ..
theorem get3b {a b c : Nat} {x y w : Blk} (h : c ≠ b) : (((σ.set a x).set b y).set c w) b = some y := by
  rw [AH.set_ne (Ne.symm h)]; exact AH.set_self ..
theorem get2a {a b : Nat} {x y : Blk} (h : b ≠ a) : ((σ.set a x).set b y) a = some x := by
  rw [AH.set_ne (Ne.symm h)]; exact AH.set_self ..
end Go.Proofs.Al
