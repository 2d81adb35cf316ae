/-
  Texts divided at a byte: by the reference's loop, by the kit's Split and Cut. No program in sight. No condition.
-/
import Derived.Test.YtnpkepfmicgelaaDoorPRun
namespace Go.Fn
open Go Go.Tc
def lb (b : ByteArray) : List UInt8 := b.data.toList
def mkB (l : List UInt8) : ByteArray := ⟨l.toArray⟩
theorem lb_mk (l : List UInt8) : lb (mkB l) = l := rfl
theorem mk_lb (b : ByteArray) : mkB (lb b) = b := rfl
theorem lb_len (b : ByteArray) : (lb b).length = b.size := by
  unfold lb
  rw [Array.length_toList]
  rfl
theorem lb_ext {a b : ByteArray} (h : lb a = lb b) : a = b := by
  apply ByteArray.ext
  exact Array.ext' h
theorem lb_extract (b : ByteArray) (i j : Nat) : lb (b.extract i j) = ((lb b).drop i).take (j - i) := by
  unfold lb
  rw [ByteArray.data_extract, Array.toList_extract, List.extract_eq_take_drop]
theorem bidx_lb {b : ByteArray} {i : Nat} (h : i < (lb b).length) : bidx b (i : Int) = some (((lb b)[i].toNat : Nat) : Int) := by
  have hs : i < b.size := by rw [← lb_len]; exact h
  unfold bidx
  rw [if_pos (by omega), Int.toNat_natCast, getElem?_pos b i hs]
  rfl
theorem bslc_lb {b : ByteArray} {i j : Nat} (h1 : i ≤ j) (h2 : j ≤ b.size) : bslc b (i : Int) (j : Int) = some (b.extract i j) := by
  unfold bslc
  rw [if_pos ⟨by omega, by omega, by omega⟩, Int.toNat_natCast, Int.toNat_natCast]
theorem str_beq (a b : ByteArray) : (a.toList == b.toList) = decide (a = b) := by
  rw [Bool.eq_iff_iff, beq_iff_eq, decide_eq_true_eq]
  refine ⟨fun h => ?_, fun h => by rw [h]⟩
  rw [ByteArray.toList_eq, ByteArray.toList_eq] at h
  exact lb_ext h
/-! ### A list divided at a byte -/
def spG (c : UInt8) : List UInt8 → List UInt8 → List (List UInt8)
  | cur, [] => [cur]
  | cur, x :: l => if x = c then cur :: spG c [] l else spG c (cur ++ [x]) l
theorem spG_app {c : UInt8} : ∀ {A : List UInt8} (cur l : List UInt8), c ∉ A → spG c cur (A ++ l) = spG c (cur ++ A) l
  | [], cur, l, _ => by simp
  | x :: A, cur, l, h => by
    have hx : ¬ x = c := fun e => h (by rw [e]; exact List.mem_cons_self ..)
    rw [List.cons_append, spG, if_neg hx, spG_app _ _ (fun hx => h (List.mem_cons_of_mem _ hx))]
    simp
theorem spG_hit (c : UInt8) (cur l : List UInt8) : spG c cur (c :: l) = cur :: spG c [] l := by rw [spG, if_pos rfl]
theorem spG_all {c : UInt8} {A : List UInt8} (h : c ∉ A) : spG c [] A = [A] := by
  have := spG_app (A := A) [] [] h
  rw [List.append_nil, List.nil_append] at this
  rw [this, spG]
theorem spG_at {c : UInt8} {A B : List UInt8} (h : c ∉ A) : spG c [] (A ++ c :: B) = A :: spG c [] B := by rw [spG_app _ _ h, spG_hit, List.nil_append]
theorem spG_len (c : UInt8) : ∀ (cur l : List UInt8), 1 ≤ (spG c cur l).length ∧ (spG c cur l).length ≤ l.length + 1
  | _, [] => ⟨Nat.le_refl _, Nat.le_refl _⟩
  | cur, x :: l => by
    unfold spG
    split
    · have := spG_len c [] l
      simp only [List.length_cons]
      omega
    · have := spG_len c (cur ++ [x]) l
      simp only [List.length_cons]
      omega
theorem spG_mem (c : UInt8) : ∀ (cur l x : List UInt8), x ∈ spG c cur l → x.length ≤ cur.length + l.length
  | cur, [], x, h => by
    unfold spG at h
    obtain rfl := List.mem_singleton.1 h
    simp
  | cur, y :: l, x, h => by
    unfold spG at h
    split at h
    · rcases List.mem_cons.1 h with rfl | h
      · omega
      · have := spG_mem c [] l x h
        simp only [List.length_nil, List.length_cons] at this ⊢
        omega
    · have := spG_mem c (cur ++ [y]) l x h
      simp only [List.length_append, List.length_cons, List.length_nil] at this ⊢
      omega
theorem spG_tail {c : UInt8} : ∀ (xs : List (List UInt8)) (cur : List UInt8), (∀ x ∈ xs, c ∉ x) → spG c cur (Lib.joinTail [c] xs) = cur :: xs
  | [], cur, _ => rfl
  | x :: xs, cur, h => by
    have e : Lib.joinTail [c] (x :: xs) = c :: (x ++ Lib.joinTail [c] xs) := by simp [Lib.joinTail]
    rw [e, spG_hit, spG_app _ _ (h x (List.mem_cons_self ..)), List.nil_append, spG_tail xs x fun y hy => h y (List.mem_cons_of_mem _ hy)]
theorem spG_join {c : UInt8} {xs : List (List UInt8)} (h0 : xs ≠ []) (h : ∀ x ∈ xs, c ∉ x) : spG c [] (Lib.join xs [c]) = xs := by
  cases xs with
  | nil => exact absurd rfl h0
  | cons x xs => rw [Lib.join_cons, spG_app _ _ (h x (List.mem_cons_self ..)), List.nil_append, spG_tail xs x fun y hy => h y (List.mem_cons_of_mem _ hy)]
/-! ### The kit's Split and Cut -/
theorem idx_one (c : UInt8) : ∀ l : List UInt8, (Lib.index l [c] = -1 ∧ c ∉ l) ∨ ∃ A B, l = A ++ c :: B ∧ c ∉ A ∧ Lib.index l [c] = A.length
  | [] => .inl ⟨rfl, by simp⟩
  | b :: l => by
    by_cases h : c = b
    · subst h
      exact .inr ⟨[], l, rfl, by simp, by simp [Lib.index, List.isPrefixOf]⟩
    · have hp : ([c] : List UInt8).isPrefixOf (b :: l) = false := by simp [List.isPrefixOf, h]
      rcases idx_one c l with ⟨h1, h2⟩ | ⟨A, B, h1, h2, h3⟩
      · exact .inl ⟨by rw [Lib.index, hp, h1]; rfl, by simp [h, h2]⟩
      · refine .inr ⟨b :: A, B, by rw [h1]; rfl, by simp [h, h2], ?_⟩
        rw [Lib.index, hp, h3]
        rw [if_neg (by simp), if_neg (fun e => by have := beq_iff_eq.1 e; omega), List.length_cons]
        omega
theorem split_sp (c : UInt8) : ∀ (k : Nat) (s : ByteArray), Lib.countB s ⟨#[c]⟩ = k → (Lib.splitB ⟨#[c]⟩ 0 k s).map lb = spG c [] (lb s) := by
  have hd : lb (⟨#[c]⟩ : ByteArray) = [c] := rfl
  have hsz : (⟨#[c]⟩ : ByteArray).size = 1 := rfl
  intro k
  induction k with
  | zero =>
    intro s hk
    rcases idx_one c (lb s) with ⟨h1, h2⟩ | ⟨A, B, h1, h2, h3⟩
    · rw [Lib.splitB_zero, List.map_singleton, spG_all h2]
    · have := Lib.countB_hit s ⟨#[c]⟩ A.length (by rw [hsz]; omega) h3
      omega
  | succ k ih =>
    intro s hk
    rcases idx_one c (lb s) with ⟨h1, h2⟩ | ⟨A, B, h1, h2, h3⟩
    · have := Lib.countB_miss s ⟨#[c]⟩ h1
      omega
    · have hc := Lib.countB_hit s ⟨#[c]⟩ A.length (by rw [hsz]; omega) h3
      have hl := lb_len s
      rw [h1, List.length_append, List.length_cons] at hl
      rw [Lib.splitB_hit (⟨#[c]⟩ : ByteArray) 0 k s A.length h3, List.map_cons, lb_extract, ih _ (by omega), lb_extract, hsz, h1, spG_at h2]
      congr 1
      · simp
      · congr 1
        rw [List.drop_append, List.drop_of_length_le (by omega), List.nil_append, show A.length + 1 - A.length = 1 by omega, List.drop_succ_cons, List.drop_zero, List.take_of_length_le (by omega)]
theorem cut_hit {c : UInt8} {A B : List UInt8} (h : c ∉ A) : Lib.cut (A ++ c :: B) [c] = (A, B, true) := by
  have hi : Lib.index (A ++ c :: B) [c] = A.length := by
    rcases idx_one c (A ++ c :: B) with ⟨_, h2⟩ | ⟨A', B', h1, h2, h3⟩
    · exact absurd (by simp) h2
    · have e : A = A' := by
        have key : ∀ (X Y X' Y' : List UInt8), c ∉ X → c ∉ X' → X ++ c :: Y = X' ++ c :: Y' → X = X' := by
          intro X
          induction X with
          | nil =>
            intro Y X' Y' _ h' e
            cases X' with
            | nil => rfl
            | cons x X' =>
              simp only [List.nil_append, List.cons_append, List.cons.injEq] at e
              exact absurd (List.mem_cons_self (a := x) (l := X')) (e.1 ▸ h')
          | cons x X ih =>
            intro Y X' Y' h h' e
            cases X' with
            | nil =>
              simp only [List.nil_append, List.cons_append, List.cons.injEq] at e
              exact absurd (List.mem_cons_self (a := x) (l := X)) (e.1 ▸ h)
            | cons x' X' =>
              simp only [List.cons_append, List.cons.injEq] at e
              rw [e.1, ih Y X' Y' (fun hx => h (List.mem_cons_of_mem _ hx)) (fun hx => h' (List.mem_cons_of_mem _ hx)) e.2]
        exact key A B A' B' h h2 h1
      rw [h3, e]
  unfold Lib.cut
  rw [hi, if_pos (by omega), Int.toNat_natCast]
  simp
/-! ### The reference's loop -/
theorem take_snoc {l : List UInt8} {a i : Nat} (h : i < l.length) (ha : a ≤ i) : (l.drop a).take (i + 1 - a) = (l.drop a).take (i - a) ++ [l[i]] := by
  rw [show i + 1 - a = (i - a) + 1 by omega, List.take_succ_eq_append_getElem (by rw [List.length_drop]; omega), List.getElem_drop]
  congr 2
  simp only [show a + (i - a) = i by omega]
theorem spec_split_run (s : ByteArray) (c : Ik .u8) (b : UInt8) (hc : c.val = (b.toNat : Int)) (hs : s.size ≤ 1073741824) : ∀ (k i a : Nat) (out : List ByteArray), i + k = s.size → a ≤ i → out.length ≤ i →
    ∃ (out' : List ByteArray) (a' : Nat), run (F_spec_l01Split_L1 s c) (out, (a : Int), (i : Int)) = some (.brk (out', (a' : Int), (s.size : Int))) ∧ a' ≤ s.size ∧ out'.length ≤ s.size ∧ out' ++ [s.extract a' s.size] = out ++ (spG b (((lb s).drop a).take (i - a)) ((lb s).drop i)).map mkB
  | 0, i, a, out, hi, ha, ho => by
    obtain rfl : i = s.size := by omega
    refine ⟨out, a, run_done ?_, ha, ho, ?_⟩
    · simp only [F_spec_l01Split_L1]
      rw [decide_eq_false (by omega), cond_false]
    · have hd : (lb s).drop s.size = [] := List.drop_of_length_le (by rw [lb_len]; exact Nat.le_refl _)
      rw [hd, spG, List.map_singleton, ← lb_extract, mk_lb]
  | k + 1, i, a, out, hi, ha, ho => by
    have hlt : i < (lb s).length := by rw [lb_len]; omega
    by_cases h : (lb s)[i] = b
    · have hb : F_spec_l01Split_L1 s c (out, (a : Int), (i : Int)) = some (.inl (out ++ [s.extract a i], ((i + 1 : Nat) : Int), ((i + 1 : Nat) : Int))) := by
        simp only [F_spec_l01Split_L1]
        rw [decide_eq_true (by omega), cond_true, bidx_lb hlt, bnd_some_eq, decide_eq_true (by rw [hc, h]), cond_true, bslc_lb ha (by omega), bnd_some_eq, app_ok (by simp; omega), bnd_some_eq, w64_nat1 (by omega)]
      obtain ⟨out', a', h1, h2, h3, h4⟩ := spec_split_run s c b hc hs k (i + 1) (i + 1) (out ++ [s.extract a i]) (by omega) (Nat.le_refl _) (by simp; omega)
      refine ⟨out', a', by rw [run_next hb, h1], h2, h3, ?_⟩
      rw [h4, Nat.sub_self, List.take_zero, List.drop_eq_getElem_cons hlt, h, spG_hit, List.map_cons, ← lb_extract, mk_lb]
      simp
    · have hb : F_spec_l01Split_L1 s c (out, (a : Int), (i : Int)) = some (.inl (out, (a : Int), ((i + 1 : Nat) : Int))) := by
        simp only [F_spec_l01Split_L1]
        rw [decide_eq_true (by omega), cond_true, bidx_lb hlt, bnd_some_eq, decide_eq_false (by rw [hc]; intro e; exact h (UInt8.toNat_inj.1 (by omega))), cond_false, w64_nat1 (by omega)]
      obtain ⟨out', a', h1, h2, h3, h4⟩ := spec_split_run s c b hc hs k (i + 1) a out (by omega) (by omega) (by omega)
      refine ⟨out', a', by rw [run_next hb, h1], h2, h3, ?_⟩
      rw [h4, take_snoc hlt ha, List.drop_eq_getElem_cons hlt]
      conv => rhs; unfold spG
      rw [if_neg h]
theorem spec_split {s : ByteArray} {c : Ik .u8} (b : UInt8) (hc : c.val = (b.toNat : Int)) (hs : s.size ≤ 1073741824) : F_spec_l01Split s c = some ((spG b [] (lb s)).map mkB) := by
  obtain ⟨out', a', h1, h2, h3, h4⟩ := spec_split_run s c b hc hs s.size 0 0 [] (by omega) (Nat.le_refl _) (Nat.zero_le _)
  unfold F_spec_l01Split
  have h1' : run (F_spec_l01Split_L1 s c) (([] : List ByteArray), 0, 0) = _ := h1
  rw [h1', bnd_some_eq]
  simp only [Out.elim]
  rw [bslc_lb h2 (Nat.le_refl _), bnd_some_eq, app_ok (by simp; omega), bnd_some_eq, h4]
  simp
theorem split_ok {s : ByteArray} {b : UInt8} (hs : s.size ≤ 1073741824) : splitG s ⟨#[b]⟩ = some ((spG b [] (lb s)).map mkB) := by
  have h1 := Lib.countB_le (⟨#[b]⟩ : ByteArray) (Nat.le_refl 1) s.size s (Nat.le_refl _)
  unfold splitG
  rw [if_pos ⟨⟨by omega, Nat.le_refl 1⟩, by omega⟩]
  congr 1
  have h2 := split_sp b _ s rfl
  have h3 := congrArg (List.map mkB) h2
  rw [List.map_map] at h3
  rw [← h3]
  conv => lhs; rw [← List.map_id (Lib.splitB ⟨#[b]⟩ 0 (Lib.countB s ⟨#[b]⟩) s)]
  exact List.map_congr_left fun x _ => (mk_lb x).symm
theorem join_spG (c : UInt8) : ∀ (cur l : List UInt8), Lib.join (spG c cur l) [c] = cur ++ l
  | cur, [] => by simp [spG, Lib.join_cons, Lib.joinTail]
  | cur, x :: l => by
    unfold spG
    split
    · rename_i h
      subst h
      have ih := join_spG x [] l
      cases hs : spG x [] l with
      | nil =>
        have := (spG_len x [] l).1
        rw [hs] at this
        exact absurd this (by simp)
      | cons y ys =>
        rw [hs, Lib.join_cons] at ih
        rw [Lib.join_cons]
        have e : Lib.joinTail [x] (y :: ys) = x :: (y ++ Lib.joinTail [x] ys) := by simp [Lib.joinTail]
        rw [e, ih]
        rfl
    · rw [join_spG c (cur ++ [x]) l]
      simp
def mapO {α β : Type} (f : α → Option β) : List α → Option (List β)
  | [] => some []
  | x :: xs => match f x with
    | none => none
    | some y => (mapO f xs).map (y :: ·)
theorem mapO_all {α β : Type} {f : α → Option β} {g : β → α} : ∀ {ds : List β}, (∀ d ∈ ds, f (g d) = some d) → mapO f (ds.map g) = some ds
  | [], _ => rfl
  | d :: ds, h => by
    rw [List.map_cons, mapO, h d (List.mem_cons_self ..)]
    simp only
    rw [mapO_all fun e he => h e (List.mem_cons_of_mem _ he)]
    rfl
theorem mapO_len {α β : Type} {f : α → Option β} : ∀ {xs : List α} {ys : List β}, mapO f xs = some ys → ys.length = xs.length ∧ ∀ y ∈ ys, ∃ x ∈ xs, f x = some y
  | [], ys, h => by
    obtain rfl := Option.some.inj h
    exact ⟨rfl, by simp⟩
  | x :: xs, ys, h => by
    rw [mapO] at h
    cases hf : f x with
    | none => rw [hf] at h; cases h
    | some y =>
      rw [hf] at h
      obtain ⟨zs, hz, rfl⟩ := Option.map_eq_some_iff.1 h
      obtain ⟨h1, h2⟩ := mapO_len hz
      refine ⟨by simp [h1], fun z hz' => ?_⟩
      rcases List.mem_cons.1 hz' with rfl | hz'
      · exact ⟨x, List.mem_cons_self .., hf⟩
      · obtain ⟨a, ha, hb⟩ := h2 z hz'
        exact ⟨a, List.mem_cons_of_mem _ ha, hb⟩
theorem mapO_back {α β : Type} {f : α → Option β} {g : β → α} : ∀ {xs : List α} {ys : List β}, mapO f xs = some ys → (∀ x y, f x = some y → y ∈ ys → x = g y) → xs = ys.map g
  | [], ys, h, _ => by
    obtain rfl := Option.some.inj h
    rfl
  | x :: xs, ys, h, hg => by
    rw [mapO] at h
    cases hf : f x with
    | none => rw [hf] at h; cases h
    | some y =>
      rw [hf] at h
      obtain ⟨zs, hz, rfl⟩ := Option.map_eq_some_iff.1 h
      rw [List.map_cons, hg x y hf (List.mem_cons_self ..), mapO_back hz fun a b hab hb => hg a b hab (List.mem_cons_of_mem _ hb)]
def outO {β X : Type} (x0 : X) (n : Int) : Option (List β) → Out (List β × Int) X
  | none => .ret x0
  | some L => .brk (L, n)
def stepO {β X : Type} (x0 : X) (out : List β) (i : Nat) : Option β → (List β × Int) ⊕ Out (List β × Int) X
  | none => .inr (.ret x0)
  | some y => .inl (out ++ [y], ((i + 1 : Nat) : Int))
/-- A loop that reads a row, element by element, and ends early where an element cannot be read. -/
theorem run_mapO {α β X : Type} {body : List β × Int → Option ((List β × Int) ⊕ Out (List β × Int) X)} (ws : List α) (hn : ws.length ≤ 1073741824) (f : α → Option β) (x0 : X)
    (h : ∀ (i : Nat) (hi : i < ws.length) (out : List β), out.length = i → body (out, (i : Int)) = some (stepO x0 out i (f ws[i])))
    (he : ∀ out : List β, body (out, (ws.length : Int)) = some (.inr (.brk (out, (ws.length : Int))))) :
    run body ([], 0) = some (outO x0 (ws.length : Int) (mapO f ws)) := by
  have key : ∀ (k i : Nat) (out : List β), i + k = ws.length → out.length = i → run body (out, (i : Int)) = some (outO x0 (ws.length : Int) ((mapO f (ws.drop i)).map (out ++ ·))) := by
    intro k
    induction k with
    | zero =>
      intro i out hi ho
      obtain rfl : i = ws.length := by omega
      rw [List.drop_length, mapO, Option.map_some, List.append_nil]
      exact run_done (he out)
    | succ k ih =>
      intro i out hi ho
      have hlt : i < ws.length := by omega
      have hb := h i hlt out ho
      rw [List.drop_eq_getElem_cons hlt, mapO]
      cases hr : f ws[i] with
      | none =>
        rw [hr] at hb
        exact run_done hb
      | some d =>
        rw [hr] at hb
        rw [run_next hb, ih (i + 1) (out ++ [d]) (by omega) (by simp; omega)]
        cases mapO f (ws.drop (i + 1)) with
        | none => rfl
        | some L => simp [outO]
  have := key ws.length 0 [] (by omega) rfl
  rw [List.drop_zero, show ((0 : Nat) : Int) = 0 from rfl] at this
  rw [this]
  cases mapO f ws with
  | none => rfl
  | some L => rfl
end Go.Fn
