/-
  The laws' own helpers: copies are copies, a datum is equal to itself, what a size check leaves is small: printed by program. No condition.
-/
import Derived.Test.YthmompdfapcgkaaFn
import Derived.Test.YthmompdfapcgkaaPure
import Derived.Test.YthmompdfapcgkaaWf
namespace Go.Fn
open Go Go.Tc
instance : Cnt GTile := ⟨fun _ => 1 + 1 + 1 + 1⟩
instance : Bdd GTile := ⟨fun _ _ => True, fun _ h => h⟩
instance : Cnt Gtiler := ⟨fun t => Cnt.cnt t.list + Cnt.cnt t.bottom + Cnt.cnt t.places + 1⟩
instance : Bdd Gtiler := ⟨fun k t => Bdd.bd k t.list ∧ Bdd.bd k t.bottom ∧ Bdd.bd k t.places, fun h k => ⟨Bdd.mono h k.1, Bdd.mono h k.2.1, Bdd.mono h k.2.2⟩⟩
instance : Cnt GRewrite := ⟨fun t => Cnt.cnt t.From + Cnt.cnt t.To⟩
instance : Bdd GRewrite := ⟨fun k t => Bdd.bd k t.From ∧ Bdd.bd k t.To, fun h k => ⟨Bdd.mono h k.1, Bdd.mono h k.2⟩⟩
instance : Cnt Gmove := ⟨fun t => 1 + 1 + Cnt.cnt t.word⟩
instance : Bdd Gmove := ⟨fun k t => Bdd.bd k t.word, fun h k => Bdd.mono h k⟩
instance : Cnt Gfound := ⟨fun t => 1 + 1 + Cnt.cnt t.move_word + 1⟩
instance : Bdd Gfound := ⟨fun k t => Bdd.bd k t.move_word, fun h k => Bdd.mono h k⟩
instance : Cnt Gl33Search := ⟨fun t => Cnt.cnt t.list + Cnt.cnt t.bottom + 1 + 1 + 1 + 1 + Cnt.cnt t.tiles⟩
instance : Bdd Gl33Search := ⟨fun k t => Bdd.bd k t.list ∧ Bdd.bd k t.bottom ∧ Bdd.bd k t.tiles, fun h k => ⟨Bdd.mono h k.1, Bdd.mono h k.2.1, Bdd.mono h k.2.2⟩⟩
instance : Cnt Gl10Search := ⟨fun t => Cnt.cnt t.words + Cnt.cnt t.before + Cnt.cnt t.steps⟩
instance : Bdd Gl10Search := ⟨fun k t => Bdd.bd k t.words ∧ Bdd.bd k t.before ∧ Bdd.bd k t.steps, fun h k => ⟨Bdd.mono h k.1, Bdd.mono h k.2.1, Bdd.mono h k.2.2⟩⟩
theorem to_Int64S (xs : (List Int)) (h : Sml xs) : F_laws_toInt64S xs = some xs := by
  unfold F_laws_toInt64S
  rw [mke_nat h.1, bnd_some_eq, run_copy xs h.1 ?_ ?_ _ (by simp)]
  · rfl
  · intro acc i hi hl
    simp [F_laws_toInt64S_L1, hi, idx_nat hi, idx_nat (show i < acc.length by omega)]
  · intro acc
    simp [F_laws_toInt64S_L1]
theorem eq_Int64S (xs : (List Int)) (h : Med xs) : F_laws_eqInt64S xs xs = some true := by
  unfold F_laws_eqInt64S
  rw [decide_eq_false (fun k => k rfl)]
  refine run_same xs.length h.1 ?_ ?_
  · intro i hi
    simp [F_laws_eqInt64S_L1, hi, idx_nat hi]
  · simp [F_laws_eqInt64S_L1]
theorem sz_Int64S (xs : (List Int)) (hw : Wf.wf xs) (b : Int) (hb0 : 0 ≤ b) (hb : b ≤ 1048576) : Szd xs b (F_laws_szInt64S xs b) := by
  unfold F_laws_szInt64S
  rcases sz_len hw.1 hb0 hb with h | ⟨h, e, h0, hn⟩
  · rw [h]
    exact szd_fail rfl
  · rw [h, e]
    exact ⟨_, rfl, .inr ⟨h0, by omega, hn, fun x hx => trivial⟩⟩
theorem sz_Rewrite (x : GRewrite) (hw : Wf.wf x) (b : Int) (hb0 : 0 ≤ b) (hb : b ≤ 1048576) : Szd x b (F_laws_szRewrite x b) := by
  unfold F_laws_szRewrite
  obtain ⟨r0, e0, k0⟩ := sz_Int64S x.From hw.1 b (by omega) (by omega)
  rw [e0, bnd_some_eq]
  rcases k0 with k0 | ⟨a0, b0, c0⟩
  · rw [decide_eq_true k0]
    exact szd_fail rfl
  rw [decide_eq_false (by omega)]
  obtain ⟨r1, e1, k1⟩ := sz_Int64S x.To hw.2 r0 (by omega) (by omega)
  rw [e1, bnd_some_eq]
  rcases k1 with k1 | ⟨a1, b1, c1⟩
  · rw [decide_eq_true k1]
    exact szd_fail rfl
  rw [decide_eq_false (by omega)]
  exact ⟨_, rfl, .inr ⟨by omega, by omega, ⟨c0, c1⟩⟩⟩
theorem sz_RewriteS (xs : (List GRewrite)) (hw : Wf.wf xs) (b : Int) (hb0 : 0 ≤ b) (hb : b ≤ 1048576) : Szd xs b (F_laws_szRewriteS xs b) := by
  unfold F_laws_szRewriteS
  rcases sz_len hw.1 hb0 hb with h | ⟨h, e, h0, hn⟩
  · rw [h]
    exact szd_fail rfl
  · rw [h, e]
    obtain ⟨r, hr, k⟩ := run_sz (body := F_laws_szRewriteS_L1 xs) xs hn F_laws_szRewrite (fun x hx => sz_Rewrite x (hw.2 x hx)) (fun i hi l => by simp [F_laws_szRewriteS_L1, hi, idx_nat hi]) (fun l => by simp [F_laws_szRewriteS_L1]) _ h0 (by omega)
    exact ⟨r, hr, k.imp id fun ⟨k0, k1, k2⟩ => ⟨k0, by omega, k2⟩⟩
theorem to_Rewrite (x : GRewrite) (h : Sml x) : F_laws_toRewrite x = some x := by
  unfold F_laws_toRewrite
  simp [to_Int64S x.From h.1, to_Int64S x.To h.2]
theorem to_RewriteS (xs : (List GRewrite)) (h : Sml xs) : F_laws_toRewriteS xs = some xs := by
  unfold F_laws_toRewriteS
  rw [mke_nat h.1, bnd_some_eq, run_copy xs h.1 ?_ ?_ _ (by simp)]
  · rfl
  · intro acc i hi hl
    simp [F_laws_toRewriteS_L1, hi, idx_nat hi, idx_nat (show i < acc.length by omega), to_Rewrite xs[i] (h.mem hi)]
  · intro acc
    simp [F_laws_toRewriteS_L1]
theorem eq_Rewrite (x : GRewrite) (h : Med x) : F_laws_eqRewrite x x = some true := by
  unfold F_laws_eqRewrite
  simp [eq_Int64S x.From h.1, eq_Int64S x.To h.2]
theorem eq_RewriteS (xs : (List GRewrite)) (h : Med xs) : F_laws_eqRewriteS xs xs = some true := by
  unfold F_laws_eqRewriteS
  rw [decide_eq_false (fun k => k rfl)]
  refine run_same xs.length h.1 ?_ ?_
  · intro i hi
    simp [F_laws_eqRewriteS_L1, hi, idx_nat hi, eq_Rewrite xs[i] (h.mem hi)]
  · simp [F_laws_eqRewriteS_L1]

end Go.Fn
