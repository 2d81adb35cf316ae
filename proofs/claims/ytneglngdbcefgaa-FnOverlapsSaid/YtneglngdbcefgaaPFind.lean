/-
  The search from one word, on both sides. No program in sight. No condition.
-/
import Derived.Test.YtneglngdbcefgaaPDerOf
namespace Go.Fn
open Go Go.Tc
/-- The search from one word. -/
noncomputable def sch (rs : List GRewrite) (f : List Int) (b : Int) : List Gfound × Bool := srch rs b 301 0 [⟨0, 0, f, -1⟩] true
theorem sch_props {rs : List GRewrite} {f : List Int} {b : Int} (hr : rewsB rs = true) (hf : wordB f = true) :
    TreeF (sch rs f b).1 ∧ GoodF (fun w => wordB w = true) (sch rs f b).1 ∧ (sch rs f b).1.length ≤ 300 ∧ 1 ≤ (sch rs f b).1.length := by
  have hT0 : TreeF [(⟨0, 0, f, -1⟩ : Gfound)] := fun i hi => by
    obtain rfl : i = 0 := by simpa using hi
    rfl
  have hG0 : GoodF (fun w => wordB w = true) [(⟨0, 0, f, -1⟩ : Gfound)] := fun g hg => by rw [List.mem_singleton.1 hg]; exact hf
  exact srch_props (b := b) hr 301 0 [⟨0, 0, f, -1⟩] true (by simp) hT0 hG0
theorem spec_l10find {rs : List GRewrite} {f : List Int} {b : Int} (hr : rewsB rs = true) (hf : wordB f = true) : F_spec_l10Find rs f b = some (wF (sch rs f b).1, bF (sch rs f b).1, sF (sch rs f b).1, (sch rs f b).2) := by
  have hfl := wordB_len hf
  have hG0 : GoodF (fun w => wordB w = true) [(⟨0, 0, f, -1⟩ : Gfound)] := fun g hg => by rw [List.mem_singleton.1 hg]; exact hf
  have hS0 : SeenOk [keyW f] [(⟨0, 0, f, -1⟩ : Gfound)] := ⟨by simp [SrtK], fun x => by simp [kF], by simp⟩
  have q3 : (([f] : List (List Int)), ([-1] : List Int), ([[]] : List (List Int)), true, ([keyW f] : List ByteArray), (0 : Int)) = (wF [⟨0, 0, f, -1⟩], bF [⟨0, 0, f, -1⟩], sF [⟨0, 0, f, -1⟩], true, [keyW f], ((0 : Nat) : Int)) := rfl
  have h := sp_search (fun w b s => (w, b, s, false)) b hr 301 0 [⟨0, 0, f, -1⟩] true [keyW f] rfl (by simp) (by simp) hS0 hG0
  have q1 : F_spec_l10Find_L1 rs b = spS1 (fun w b s => (w, b, s, false)) rs b := rfl
  unfold F_spec_l10Find
  rw [spec_own f (by omega), bnd_some_eq, spec_key f (by omega), bnd_some_eq, q1, q3]
  unfold sch
  rcases h with ⟨hc, hrun⟩ | ⟨L', n, hrun⟩
  · rw [hrun, bnd_some_eq, hc]; rfl
  · rw [hrun, bnd_some_eq]; rfl
theorem impl_searched {rs : List GRewrite} {f : List Int} {b : Int} (hr : rewsB rs = true) (hf : wordB f = true) : ∃ nums, NumK (sch rs f b).1 nums ∧ F_impl_searched rs f b = some ((sch rs f b).1, nums, (sch rs f b).2) := by
  have hfl := wordB_len hf
  have hG0 : GoodF (fun w => wordB w = true) [(⟨0, 0, f, -1⟩ : Gfound)] := fun g hg => by rw [List.mem_singleton.1 hg]; exact hf
  have hN0 : NumK [(⟨0, 0, f, -1⟩ : Gfound)] (mput [] (keyW f) ((0 : Nat) : Int)) := by
    have : NumK ([] : List Gfound) [] := fun x => rfl
    exact this.add (f := ⟨0, 0, f, -1⟩) (by simp)
  obtain ⟨nums, hN, h⟩ := im_search (fun fs n => (fs, n, false)) b hr 301 0 [⟨0, 0, f, -1⟩] true (mput [] (keyW f) ((0 : Nat) : Int)) rfl (by simp) (by simp) hN0 hG0
  have q1 : F_impl_searched_L1 rs b = imS1 (fun fs n => (fs, n, false)) rs b := rfl
  have e3 : ∀ w : List Int, app ([] : List Gfound) [(⟨0, 0, w, -1⟩ : Gfound)] = some [⟨0, 0, w, -1⟩] := fun _ => rfl
  refine ⟨nums, hN, ?_⟩
  unfold F_impl_searched
  rw [impl_clone f (by omega), bnd_some_eq, impl_key f (by omega), bnd_some_eq, e3, bnd_some_eq, q1]
  unfold sch
  rw [show ((0 : Nat) : Int) = 0 from rfl] at h ⊢
  rcases h with ⟨hc, hrun⟩ | ⟨n, hrun⟩
  · rw [hrun, bnd_some_eq, hc]; rfl
  · rw [hrun, bnd_some_eq]; rfl
end Go.Fn
