/-
  A library of this claim, part 2: what each operation of the program does to abstract values and memory, proved once against the model; an engine over it that the kernel can run, and its soundness. No condition.
-/
import Derived.Test.YtkdmemhinolcnaaGreatDoorHx1
import Derived.Deep.AppendSrc
import Derived.Laws.AppendOwn
import Derived.Laws.Sem
/-
  Hx: vectors, written, and moved.
-/
namespace Go.Hx
open Go

section
variable {P : Program} {E : Env} [Glob] {φ : Phi} {lam : Nat → Nat} {perm : Perm} {S : St} {a : Act} {w : World} {o : Oper} {K : Upd → Prop}

/-- a vector, written where it lies -/
theorem FRs.wrVec {M : Mem} (h : FRs φ lam perm S a M) {g k ver r off cap elem : Nat} {cs cs' : List V} {arr arr' : Array Value} (hb : S.hp[g]? = some (.vec k cs ver)) (h1 : φ.hd g ver = some (r, off, cap, k))
    (hM : M[r]? = some (.cells arr elem (0, 0))) (hs : arr.size = arr'.size) {N' : Nat} (hl : cs'.length = N' * k) (hN : N' ≤ cap)
    (hrow : VecR (mkC φ S.hp.length perm (M.setIfInBounds r (.cells arr' elem (0, 0)))) cs' arr' off) :
    FRs φ lam perm { S with hp := S.hp.set g (.vec k cs' ver) } a (M.setIfInBounds r (.cells arr' elem (0, 0))) ∧
    Evo M perm (M.setIfInBounds r (.cells arr' elem (0, 0))) perm := by
  obtain ⟨r', off', cap', arr0, elem0, N, v1, v2, hp, v4, v5, v6, v7, v8⟩ := h.hr.vecs g k cs ver hb
  have v1' : φ.hd g ver = some (r', off', cap', k) := v1
  rw [h1] at v1'; cases v1'
  rw [hM] at v4
  simp only [Option.some.injEq, Obj.cells.injEq] at v4
  obtain ⟨rfl, rfl, -⟩ := v4
  have hlt := lt_of_some hM
  generalize hM' : M.setIfInBounds r (.cells arr' elem (0, 0)) = M' at *
  have hget : ∀ r', M'[r']? = if r = r' then some (.cells arr' elem (0, 0)) else M[r']? := fun r' => by rw [← hM']; exact set_get hlt r'
  have ho : ∀ q, q ≠ r → M'[q]? = M[q]? ∧ perm q = perm q := fun q hq => ⟨by rw [hget, if_neg (Ne.symm hq)], rfl⟩
  have hE : Evo M perm M' perm := Evo.at (by rw [← hM']; simp) ho hp (by simp) (fun o v hi _ => by rw [imm_zero hp] at hi; cases hi)
    (by rw [blockSize_cells hM, blockSize_cells (M := M') (by rw [hget, if_pos rfl])]; omega)
  have hC : (mkC φ S.hp.length perm M).le (mkC φ S.hp.length perm M') := hE.le (fun _ _ => rfl) (Nat.le_refl _)
  have hblt := hlt_of_some hb
  have hRt : ∀ p v x, Rt perm M p v x → Rt perm M' p v x := fun p v x hr => hr.other hp (by simp) ho
  have hmap : ∀ m ents clock, m < S.hp.length → M[φ m]? = some (.map ents clock) → M'[φ m]? = M[φ m]? := fun m ents clock _ hm =>
    (ho _ (fun e => by rw [e, hM] at hm; cases hm)).1
  refine ⟨⟨⟨fun b' cs1 hb' => ?_, fun b' ar' es hb' => ?_, fun b' k' cs1 ver1 hb' => ?_, fun b' m hb' => ?_, fun g ver hg => h.hr.hdlt g ver (by simpa [mkC] using hg)⟩, fun s1 cs1 hs1 => ?_, fun t v hv => ?_, h.len, h.defers, fun r hr => h.fresh r (by rw [← hM'] at hr; simpa using hr), GlOK.evo h.gl hE⟩, hE⟩
  · simp only [hset_get hblt] at hb'
    simp only [List.length_set]
    by_cases e : g = b'
    · subst e; simp at hb'
    · simp only [e, if_false] at hb'
      obtain ⟨h1, arr1, elem1, h2, h3⟩ := h.hr.cells b' cs1 hb'
      have hne : φ b' ≠ r := fun e2 => by
        change perm (φ b') = _ at h1; rw [e2, hp] at h1; simp at h1; exact e h1
      exact ⟨h1, arr1, elem1, by show M'[φ b']? = _; rw [(ho _ hne).1]; exact h2, h3.mono hC fun i v x _ hr => hRt _ _ _ hr⟩
  · simp only [hset_get hblt] at hb'
    simp only [List.length_set]
    by_cases e : g = b'
    · subst e; simp at hb'
    · simp only [e, if_false] at hb'
      obtain ⟨h1, ents, clock, h2, h3⟩ := h.hr.maps b' ar' es hb'
      have hne : φ b' ≠ r := fun e2 => by
        change perm (φ b') = _ at h1; rw [e2, hp] at h1; simp at h1; exact e h1
      exact ⟨h1, ents, clock, by show M'[φ b']? = _; rw [(ho _ hne).1]; exact h2, h3.mono hC⟩
  · simp only [hset_get hblt] at hb'
    simp only [List.length_set]
    by_cases e : g = b'
    · subst e
      simp only [if_true] at hb'; cases hb'
      exact ⟨r, off, cap, arr', elem, N', h1, v2, hp, by rw [hget, if_pos rfl], by rw [← hs]; exact v5, hl, hN, hrow⟩
    · simp only [e, if_false] at hb'
      obtain ⟨r1, off1, cap1, arr1, elem1, N1, g1, g2, g3, g4, g5, g6, g7, g8⟩ := h.hr.vecs b' k' cs1 ver1 hb'
      have hne : r1 ≠ r := fun e2 => by rw [e2, hp] at g3; simp at g3; exact e g3
      exact ⟨r1, off1, cap1, arr1, elem1, N1, g1, g2, g3, by rw [(ho _ hne).1]; exact g4, g5, g6, g7, g8.mono hC⟩
  · simp only [hset_get hblt] at hb'
    simp only [List.length_set]
    by_cases e : g = b'
    · subst e; simp at hb'
    · simp only [e, if_false] at hb'
      obtain ⟨h0, h1, c1, c2, c3, h2⟩ := h.hr.eits b' m hb'
      have hne : φ b' ≠ r := fun e2 => by
        change perm (φ b') = _ at h1; rw [e2, hp] at h1; simp at h1; exact e h1
      exact ⟨h0, h1, c1, c2, c3, by show M'[φ b']? = _; rw [(ho _ hne).1]; exact h2⟩
  · obtain ⟨h1, arr1, elem1, h2, h3⟩ := h.br s1 cs1 hs1
    have hne : lam s1 ≠ r := fun e2 => by rw [e2, hp] at h1; simp at h1
    simp only [List.length_set]
    exact ⟨h1, arr1, elem1, by rw [(ho _ hne).1]; exact h2, h3.mono hC fun i v x _ hr => hRt _ _ _ hr⟩
  · simp only [List.length_set]
    exact (h.tm t v hv).keep hC (hRt _ _ _) hmap (fun s cs hs => ⟨rfl, cs, hs, Nat.le_refl _⟩)

omit [Glob] in
/-- cells stored in a vector -/
theorem VecR.store {C : Ctx} {cs vs : List V} {arr xs : Array Value} {off q : Nat} (h : VecR C cs arr off) (hv : AR C vs xs) (hfit : q + vs.length ≤ cs.length) (hsz : off + cs.length ≤ arr.size) :
    VecR C (setRange cs q vs) (arr.toList.take (off + q) ++ xs.toList ++ arr.toList.drop (off + q + xs.toList.length)).toArray off ∧
    (arr.toList.take (off + q) ++ xs.toList ++ arr.toList.drop (off + q + xs.toList.length)).toArray.size = arr.size := by
  have hl : xs.toList.length = vs.length := by simpa using hv.size
  have hal : arr.toList.length = arr.size := by simp
  have hxl : xs.size = xs.toList.length := by simp
  have hq : (arr.toList.take (off + q)).length = off + q := by simp; omega
  refine ⟨⟨fun i v hi => ?_⟩, by simp; omega⟩
  rw [setRange_get vs cs q i hfit] at hi
  split at hi
  · rename_i hc
    obtain ⟨h1, x, h2, h3⟩ := hv.each _ v hi
    refine ⟨h1, x, ?_, h3⟩
    rw [List.getElem?_toArray, List.append_assoc, List.getElem?_append_right (by omega), hq, List.getElem?_append_left (by omega)]
    rw [show off + i - (off + q) = i - q by omega]; simpa using h2
  · rename_i hc
    obtain ⟨h1, x, h2, h3⟩ := h.each i v hi
    refine ⟨h1, x, ?_, h3⟩
    have h2' : arr.toList[off + i]? = some x := by simpa using h2
    rw [List.getElem?_toArray]
    by_cases hiq : i < q
    · rw [List.append_assoc, List.getElem?_append_left (by omega), List.getElem?_take, if_pos (by omega)]; exact h2'
    · rw [List.getElem?_append_right (by simp; omega), List.getElem?_drop]
      simp only [List.length_append, hq]
      rw [show off + q + xs.toList.length + (off + i - (off + q + xs.toList.length)) = off + i by omega]; exact h2'
end
end Go.Hx

/-
  Hx: new versions of a vector, new vectors.
-/
namespace Go.Hx
open Go

def Phi.setHd (φ : Phi) (g v : Nat) (x : Nat × Nat × Nat × Nat) : Phi := ⟨φ.f, fun g' v' => if g' = g ∧ v' = v then some x else φ.hd g' v'⟩

theorem Phi.setHd_same (φ : Phi) (g v : Nat) (x : Nat × Nat × Nat × Nat) : (φ.setHd g v x).hd g v = some x := by simp [Phi.setHd]

theorem Phi.setHd_le {φ : Phi} {g v : Nat} {x : Nat × Nat × Nat × Nat} (h : φ.hd g v = none) : ∀ g' v' y, φ.hd g' v' = some y → (φ.setHd g v x).hd g' v' = some y := fun g' v' y hy => by
  simp only [Phi.setHd]
  split
  · rename_i e; rw [e.1, e.2, h] at hy; cases hy
  · exact hy

section
variable {P : Program} {E : Env} [Glob] {φ : Phi} {lam : Nat → Nat} {perm : Perm} {S : St} {a : Act} {w : World} {o : Oper} {K : Upd → Prop}

/-- a vector, said to lie elsewhere from now on -/
theorem FRs.rebase {M : Mem} (h : FRs φ lam perm S a M) {g k ver r off cap elem N : Nat} {cs cs' : List V} {arr : Array Value} (hb : S.hp[g]? = some (.vec k cs ver)) (hp : perm r = some (.hb g, 0))
    (hM : M[r]? = some (.cells arr elem (0, 0))) (hs : off + cap * k ≤ arr.size) (hl : cs'.length = N * k) (hN : N ≤ cap) (hrow : VecR (mkC φ S.hp.length perm M) cs' arr off) :
    FRs (φ.setHd g (ver + 1) (r, off, cap, k)) lam perm { S with hp := S.hp.set g (.vec k cs' (ver + 1)) } a M ∧ (∀ g' v' y, φ.hd g' v' = some y → (φ.setHd g (ver + 1) (r, off, cap, k)).hd g' v' = some y) := by
  obtain ⟨-, -, -, -, -, -, -, v2, -⟩ := h.hr.vecs g k cs ver hb
  have hnone : φ.hd g (ver + 1) = none := v2 _ (Nat.lt_succ_self _)
  have hle := Phi.setHd_le (x := (r, off, cap, k)) hnone
  have hC : (mkC φ S.hp.length perm M).le (mkC (φ.setHd g (ver + 1) (r, off, cap, k)) S.hp.length perm M) :=
    mkC_le (fun _ _ => rfl) (Nat.le_refl _) (fun _ _ _ h h' => ⟨h, h'⟩) (fun _ => Nat.le_refl _) hle
  have hblt := hlt_of_some hb
  refine ⟨⟨⟨fun b' cs1 hb' => ?_, fun b' ar' es hb' => ?_, fun b' k' cs1 ver1 hb' => ?_, fun b' m hb' => ?_, fun g' ver' hg => ?_⟩, fun s1 cs1 hs1 => ?_, fun t v hv => ?_, h.len, h.defers, h.fresh, h.gl⟩, hle⟩
  · simp only [hset_get hblt] at hb'
    simp only [List.length_set]
    by_cases e : g = b'
    · subst e; simp at hb'
    · simp only [e, if_false] at hb'
      obtain ⟨h1, arr1, elem1, h2, h3⟩ := h.hr.cells b' cs1 hb'
      exact ⟨h1, arr1, elem1, h2, h3.mono hC fun i v x _ hr => hr⟩
  · simp only [hset_get hblt] at hb'
    simp only [List.length_set]
    by_cases e : g = b'
    · subst e; simp at hb'
    · simp only [e, if_false] at hb'
      obtain ⟨h1, ents, clock, h2, h3⟩ := h.hr.maps b' ar' es hb'
      exact ⟨h1, ents, clock, h2, h3.mono hC⟩
  · simp only [hset_get hblt] at hb'
    simp only [List.length_set]
    by_cases e : g = b'
    · subst e
      simp only [if_true] at hb'; cases hb'
      refine ⟨r, off, cap, arr, elem, N, Phi.setHd_same _ _ _ _, fun ver' hv => ?_, hp, hM, hs, hl, hN, hrow.mono hC⟩
      show (φ.setHd g (ver + 1) (r, off, cap, k)).hd g ver' = none
      simp only [Phi.setHd]
      rw [if_neg (by omega)]
      exact v2 ver' (by omega)
    · simp only [e, if_false] at hb'
      obtain ⟨r1, off1, cap1, arr1, elem1, N1, g1, g2, g3, g4, g5, g6, g7, g8⟩ := h.hr.vecs b' k' cs1 ver1 hb'
      refine ⟨r1, off1, cap1, arr1, elem1, N1, hle _ _ _ g1, fun ver' hv => ?_, g3, g4, g5, g6, g7, g8.mono hC⟩
      show (φ.setHd g (ver + 1) (r, off, cap, k)).hd b' ver' = none
      simp only [Phi.setHd]
      rw [if_neg (fun hh => e hh.1.symm)]
      exact g2 ver' hv
  · simp only [hset_get hblt] at hb'
    simp only [List.length_set]
    by_cases e : g = b'
    · subst e; simp at hb'
    · simp only [e, if_false] at hb'
      exact h.hr.eits b' m hb'
  · have hg' : S.hp.length ≤ g' := by simpa [mkC] using hg
    show (φ.setHd g (ver + 1) (r, off, cap, k)).hd g' ver' = none
    simp only [Phi.setHd]
    rw [if_neg (by omega)]
    exact h.hr.hdlt g' ver' hg'
  · obtain ⟨h1, arr1, elem1, h2, h3⟩ := h.br s1 cs1 hs1
    simp only [List.length_set]
    exact ⟨h1, arr1, elem1, h2, h3.mono hC fun i v x _ hr => hr⟩
  · simp only [List.length_set]
    exact (h.tm t v hv).keep hC (fun hr => hr) (fun _ _ _ _ _ => rfl) (fun s cs hs => ⟨rfl, cs, hs, Nat.le_refl _⟩)

/-- a block of M becomes a vector of the abstract heap -/
theorem FRs.addVec {M : Mem} (h : FRs φ lam perm S a M) {k r off cap elem N : Nat} {cs : List V} {arr : Array Value} (hp : perm r = some (.hb S.hp.length, 0))
    (hM : M[r]? = some (.cells arr elem (0, 0))) (hs : off + cap * k ≤ arr.size) (hl : cs.length = N * k) (hN : N ≤ cap) (hrow : VecR (mkC φ S.hp.length perm M) cs arr off) :
    FRs (φ.setHd S.hp.length 0 (r, off, cap, k)) lam perm { S with hp := S.hp ++ [.vec k cs 0] } a M ∧ (∀ g' v' y, φ.hd g' v' = some y → (φ.setHd S.hp.length 0 (r, off, cap, k)).hd g' v' = some y) := by
  have hnone : ∀ v, φ.hd S.hp.length v = none := fun v => h.hr.hdlt _ v (Nat.le_refl _)
  have hle := Phi.setHd_le (x := (r, off, cap, k)) (hnone 0)
  have hC : (mkC φ S.hp.length perm M).le (mkC (φ.setHd S.hp.length 0 (r, off, cap, k)) (S.hp ++ [HObj.vec k cs 0]).length perm M) :=
    mkC_le (fun _ _ => rfl) (by simp) (fun _ _ _ h h' => ⟨h, h'⟩) (fun _ => Nat.le_refl _) hle
  have old : ∀ {b : Nat} {x : HObj}, (S.hp ++ [HObj.vec k cs 0])[b]? = some x → S.hp[b]? = some x ∨ (b = S.hp.length ∧ x = .vec k cs 0) := fun {b x} hb => by
    rcases Nat.lt_or_ge b S.hp.length with hlt | hge
    · rw [List.getElem?_append_left hlt] at hb; exact .inl hb
    · rw [List.getElem?_append_right hge] at hb
      rcases Nat.lt_or_ge S.hp.length b with h' | h'
      · rw [List.getElem?_eq_none (by simp; omega)] at hb; cases hb
      · have : b = S.hp.length := by omega
        subst this
        simp at hb; exact .inr ⟨rfl, hb.symm⟩
  refine ⟨⟨⟨fun b' cs1 hb' => ?_, fun b' ar' es hb' => ?_, fun b' k' cs1 ver1 hb' => ?_, fun b' m hb' => ?_, fun g' ver' hg => ?_⟩, fun s1 cs1 hs1 => ?_, fun t v hv => ?_, h.len, h.defers, h.fresh, h.gl⟩, hle⟩
  · rcases old hb' with hb' | ⟨-, hb'⟩
    · obtain ⟨h1, arr1, elem1, h2, h3⟩ := h.hr.cells b' cs1 hb'
      exact ⟨h1, arr1, elem1, h2, h3.mono hC fun i v x _ hr => hr⟩
    · cases hb'
  · rcases old hb' with hb' | ⟨-, hb'⟩
    · obtain ⟨h1, ents, clock, h2, h3⟩ := h.hr.maps b' ar' es hb'
      exact ⟨h1, ents, clock, h2, h3.mono hC⟩
    · cases hb'
  · rcases old hb' with hb' | ⟨rfl, hq⟩
    · have hne := hlt_of_some hb'
      obtain ⟨r1, off1, cap1, arr1, elem1, N1, g1, g2, g3, g4, g5, g6, g7, g8⟩ := h.hr.vecs b' k' cs1 ver1 hb'
      refine ⟨r1, off1, cap1, arr1, elem1, N1, hle _ _ _ g1, fun ver' hv => ?_, g3, g4, g5, g6, g7, g8.mono hC⟩
      show (φ.setHd S.hp.length 0 (r, off, cap, k)).hd b' ver' = none
      simp only [Phi.setHd]
      rw [if_neg (by omega)]
      exact g2 ver' hv
    · cases hq
      refine ⟨r, off, cap, arr, elem, N, Phi.setHd_same _ _ _ _, fun ver' hv => ?_, hp, hM, hs, hl, hN, hrow.mono hC⟩
      show (φ.setHd S.hp.length 0 (r, off, cap, k)).hd S.hp.length ver' = none
      simp only [Phi.setHd]
      rw [if_neg (by omega)]
      exact hnone ver'
  · rcases old hb' with hb' | ⟨-, hb'⟩
    · obtain ⟨h0, h1, h2⟩ := h.hr.eits b' m hb'
      have h0' : m < S.hp.length := h0
      exact ⟨by simp [mkC]; omega, h1, h2⟩
    · cases hb'
  · have hg' : S.hp.length + 1 ≤ g' := by simpa [mkC] using hg
    show (φ.setHd S.hp.length 0 (r, off, cap, k)).hd g' ver' = none
    simp only [Phi.setHd]
    rw [if_neg (by omega)]
    exact h.hr.hdlt g' ver' (by simp [mkC]; omega)
  · obtain ⟨h1, arr1, elem1, h2, h3⟩ := h.br s1 cs1 hs1
    exact ⟨h1, arr1, elem1, h2, h3.mono hC fun i v x _ hr => hr⟩
  · exact (h.tm t v hv).keep hC (fun hr => hr) (fun _ _ _ _ _ => rfl) (fun s cs hs => ⟨rfl, cs, hs, Nat.le_refl _⟩)
end
end Go.Hx

/-
  Hx, part 16: stores, values moved out of memory, maps written.
-/
namespace Go.Hx
open Go

section
variable {P : Program} {E : Env} [Glob] {φ : Phi} {lam : Nat → Nat} {perm : Perm} {S : St} {a : Act} {w : World} {o : Oper} {K : Upd → Prop}

/-- what moves to a place: its rights go along -/
theorem rights_to (h : FRs φ lam perm S a w.heap) (take : List Nat) (p1 : Pos) {v : V} {x : Value} (hr : Rts perm w.heap take v x) :
    ∃ perm1, FRs φ lam perm1 { S with tm := (take.map fun t => (t, V.dead)).foldl (fun tm p => tm.set p.1 p.2) S.tm } a w.heap ∧ Evo w.heap perm w.heap perm1 ∧ Rt perm1 w.heap p1 v x := by
  have hk := h.kills take
  rcases hr with ⟨t, ht, hr⟩ | hr
  · have hd : ({ S with tm := (take.map fun t => (t, V.dead)).foldl (fun tm p => tm.set p.1 p.2) S.tm } : St).deadAt (.t t) := fun v hv => killed ht hv
    exact ⟨renP perm (.t t) p1, hk.ren hd p1, Evo.ren _ _ _, hr.ren_same⟩
  · exact ⟨perm, hk, Evo.refl _ _, hr _ _ _⟩

omit [Glob] in
theorem cells_store {C : Ctx} {M : Mem} {bx : Nat → Option (List V)} {v : V} {x : Value} {p : Nat → Pos} {q : Nat} (h : OV C M lam bx v x) (hc : storable v = true) (hr : Rt perm M (p q) v x) :
    x.cells.toList.length = v.cells.length ∧ (∀ y ∈ x.cells.toList, Hx.one y = true) ∧
    ∀ (i : Nat) u, v.cells[i]? = some u → ∃ y, x.cells.toList[i]? = some y ∧ u.cell = true ∧ VR C u y ∧ Rt perm M (p (q + i)) u y := by
  have single : (∀ cs, v ≠ .agg cs) → v.cell = true → v.cells = [v] → _ := fun h1 h2 h3 => by
    have hv := h.vr_cell h2
    have ho := hv.one_of_cell h2
    have hx : x.cells = #[x] := by cases x <;> simp [Hx.one] at ho <;> rfl
    show x.cells.toList.length = v.cells.length ∧ (∀ y ∈ x.cells.toList, Hx.one y = true) ∧
      ∀ (i : Nat) u, v.cells[i]? = some u → ∃ y, x.cells.toList[i]? = some y ∧ u.cell = true ∧ VR C u y ∧ Rt perm M (p (q + i)) u y
    rw [h3, hx]
    refine ⟨rfl, fun y hy => by simp at hy; subst hy; exact ho, fun i u hu => ?_⟩
    cases i with
    | zero => simp at hu; subst hu; exact ⟨x, rfl, h2, hv, hr⟩
    | succ i => simp at hu
  cases v with
  | agg cs =>
    have hcr := cells_rel (h : VR C _ x) (v := .agg cs) hc
    refine ⟨by simpa using hcr.size, fun y hy => ?_, fun i u hu => ?_⟩
    · obtain ⟨i, hi⟩ := List.mem_iff_getElem?.1 hy
      have hlt : i < cs.length := by
        have := hcr.size
        simp only [V.cells] at this
        rcases Nat.lt_or_ge i cs.length with h' | h'
        · exact h'
        · rw [List.getElem?_eq_none (by simp; omega)] at hi; cases hi
      obtain ⟨hcell, y', h2, h3, -⟩ := hcr.each i cs[i] (by simp [V.cells, hlt])
      have : y = y' := by
        have h2' : x.cells.toList[i]? = some y' := by simpa using h2
        rw [hi] at h2'; exact Option.some.inj h2'
      subst this
      exact h3.one_of_cell hcell
    · obtain ⟨h1, y, h2, h3, h4⟩ := hcr.each i u hu
      exact ⟨y, by simpa using h2, h1, h3, h4 _ _ _⟩
  | tup _ | lptr _ _ | lmsl _ _ _ _ _ | dead | stamp _ _ | ment _ _ _ => simp [storable, V.cell] at hc
  | _ => exact single (by intro cs h; cases h) hc rfl

theorem s_store {oa : OA} (hE : EnvE P E) (h : FRs φ lam perm S a w.heap) {t : Nat} {x y : Operand} (hop : o.op = .store t x y) (hdst : o.dst = none)
    (hK : (if (E.ti t).ok then outStore (E.ti t) oa.take S.box S.hp (evO S.tm oa.take 0 x) (evO S.tm oa.take (E.kOf t) y) else .fail).wp K) : Does P o a w (R0 φ perm S a w o K) := by
  obtain ⟨hx, -⟩ := h.ev oa.take 0 x
  obtain ⟨hy, hry⟩ := h.ev oa.take (E.kOf t) y
  split at hK
  · rename_i hok
    have ht := hE.ok t hok
    unfold outStore at hK
    generalize hvy : evO S.tm oa.take (E.kOf t) y = vy at *
    have run : ∀ {r q elem : Nat} {arr : Array Value}, a.eval x = .pointer (some ⟨r, q, none⟩) → w.heap[r]? = some (.cells arr elem (0, 0)) → (a.eval y).cells.toList.length = (E.ti t).size → q + (E.ti t).size ≤ arr.size →
        (∀ z ∈ (a.eval y).cells.toList, Hx.one z = true) → (execOp a.eval o).run P w = .ok .skip (w.setRow r (arr.toList.take q ++ (a.eval y).cells.toList ++ arr.toList.drop (q + (a.eval y).cells.toList.length)).toArray) := by
      intro r q elem arr e hM h1 h2 h3
      simp [execOp, hop, Instr.storeAt, e, Instr.sureAddr, storeVar_run ht hM (by simpa using h1) h2 h3]
    split at hK
    · rename_i s q he
      rw [he] at hx
      split at hK
      · exact hK.elim
      · rename_i cs hcs
        split at hK
        · rename_i cs' hst
          unfold storeV at hst
          split at hst
          · rename_i hc
            obtain ⟨hc1, hc2, hc3⟩ := hc
            cases hst
            obtain ⟨perm1, hF, hEv, hR⟩ := rights_to h oa.take (.b s q) hry
            have hC1 : (mkC φ S.hp.length perm w.heap).le (mkC φ S.hp.length perm1 w.heap) := hEv.le (fun _ _ => rfl) (Nat.le_refl _)
            obtain ⟨hp, arr, elem, hM, hrow⟩ := hF.br s cs hcs
            obtain ⟨hl, ho, hv⟩ := cells_store (p := Pos.b s) (hy.mono hC1) hc3 hR
            obtain ⟨hrow', hsz⟩ := store_row hrow (q := q) hl (by omega) hv
            have hle : cs.length ≤ arr.size := hrow.1
            have hr := run (r := lam s) (q := q) hx.2 hM (by omega) (by omega) ho
            have hheap := setRow_heap' (cs := (arr.toList.take q ++ (a.eval y).cells.toList ++ arr.toList.drop (q + (a.eval y).cells.toList.length)).toArray) hM
            refine .inr (.inl ⟨_, hr, _, hK, ?_⟩)
            rw [hdst]
            have hlt := lt_of_some hM
            have ho' : ∀ r, r ≠ lam s → (w.heap.setIfInBounds (lam s) (.cells (arr.toList.take q ++ (a.eval y).cells.toList ++ arr.toList.drop (q + (a.eval y).cells.toList.length)).toArray elem (0, 0)))[r]? = w.heap[r]? ∧ perm1 r = perm1 r := fun r hr => ⟨by rw [set_get hlt, if_neg (Ne.symm hr)], rfl⟩
            have hE' : Evo w.heap perm1 (w.heap.setIfInBounds (lam s) (.cells (arr.toList.take q ++ (a.eval y).cells.toList ++ arr.toList.drop (q + (a.eval y).cells.toList.length)).toArray elem (0, 0))) perm1 :=
              Evo.at (by simp) ho' hp (by simp) (fun o v hi _ => by rw [imm_zero hp] at hi; cases hi) (by
                rw [blockSize_cells hM, blockSize_cells (M := w.heap.setIfInBounds _ _) (by rw [set_get hlt, if_pos rfl]), hsz]; exact Nat.le_refl _)
            obtain ⟨hw1, hw2⟩ := hF.wrBox (cs' := setRange cs q vy.cells) hcs (by rw [setRange_len]; exact Nat.le_refl _) hM hsz.symm
              (hrow'.mono (hE'.le (fun _ _ => rfl) (Nat.le_refl _)) (fun i v x _ hr => hr.other hp (by simp) ho'))
            refine ⟨⟨φ, lam, perm1, ?_, ?_, fun _ _ => rfl, fun _ _ _ h => h⟩, Nat.le_refl _, rfl, rfl, rfl⟩
            · rw [hheap]; exact hw1
            · rw [hheap]; exact hEv.trans hw2
          · cases hst
        · exact hK.elim
    · rename_i b q he
      rw [he] at hx
      split at hK
      · rename_i cs hcs
        split at hK
        · rename_i cs' hst
          unfold storeV at hst
          split at hst
          · rename_i hc
            obtain ⟨hc1, hc2, hc3⟩ := hc
            cases hst
            obtain ⟨perm1, hF, hEv, hR⟩ := rights_to h oa.take (.h b q) hry
            have hC1 : (mkC φ S.hp.length perm w.heap).le (mkC φ S.hp.length perm1 w.heap) := hEv.le (fun _ _ => rfl) (Nat.le_refl _)
            obtain ⟨hp, arr, elem, hM, hrow⟩ := hF.hr.cells b cs hcs
            change perm1 (φ b) = _ at hp
            change w.heap[φ b]? = _ at hM
            obtain ⟨hl, ho, hv⟩ := cells_store (p := Pos.h b) (hy.mono hC1) hc3 hR
            obtain ⟨hrow', hsz⟩ := store_row hrow (q := q) hl (by omega) hv
            have hle : cs.length ≤ arr.size := hrow.1
            have hr := run (r := φ b) (q := q) (VR.ptrI hx).1 hM (by omega) (by omega) ho
            have hheap := setRow_heap' (cs := (arr.toList.take q ++ (a.eval y).cells.toList ++ arr.toList.drop (q + (a.eval y).cells.toList.length)).toArray) hM
            refine .inr (.inl ⟨_, hr, _, hK, ?_⟩)
            rw [hdst]
            have hlt := lt_of_some hM
            have ho' : ∀ r, r ≠ φ b → (w.heap.setIfInBounds (φ b) (.cells (arr.toList.take q ++ (a.eval y).cells.toList ++ arr.toList.drop (q + (a.eval y).cells.toList.length)).toArray elem (0, 0)))[r]? = w.heap[r]? ∧ perm1 r = perm1 r := fun r hr => ⟨by rw [set_get hlt, if_neg (Ne.symm hr)], rfl⟩
            have hE' : Evo w.heap perm1 (w.heap.setIfInBounds (φ b) (.cells (arr.toList.take q ++ (a.eval y).cells.toList ++ arr.toList.drop (q + (a.eval y).cells.toList.length)).toArray elem (0, 0))) perm1 :=
              Evo.at (by simp) ho' hp (by simp) (fun o v hi _ => by rw [imm_zero hp] at hi; cases hi) (by
                rw [blockSize_cells hM, blockSize_cells (M := w.heap.setIfInBounds _ _) (by rw [set_get hlt, if_pos rfl]), hsz]; exact Nat.le_refl _)
            obtain ⟨hw1, hw2⟩ := hF.wrHeap (cs' := setRange cs q vy.cells) hcs hM hsz.symm
              (hrow'.mono (hE'.le (fun _ _ => rfl) (Nat.le_refl _)) (fun i v x _ hr => hr.other hp (by simp) ho'))
            refine ⟨⟨φ, lam, perm1, ?_, ?_, fun _ _ => rfl, fun _ _ _ h => h⟩, by simp [St.apply], rfl, rfl, rfl⟩
            · rw [hheap]; exact hw1
            · rw [hheap]; exact hEv.trans hw2
          · cases hst
        · exact hK.elim
      · exact hK.elim
    · rename_i g ver q he
      rw [he] at hx
      split at hK
      · rename_i k cs ver' hg
        split at hK
        · rename_i hcc
          obtain ⟨rfl, hok2⟩ := hcc
          split at hK
          · rename_i cs' hst
            unfold storeV at hst
            split at hst
            · rename_i hc
              obtain ⟨hc1, hc2, hc3⟩ := hc
              cases hst
              have hkl := h.kills oa.take
              obtain ⟨r, off, cap, arr, elem, N, v1, v2, hp, v4, v5, v6, v7, v8⟩ := hkl.hr.vecs g k cs ver hg
              obtain ⟨r2, off2, cap2, k2, w2, e⟩ := VR.gptrI hx
              have v1' : φ.hd g ver = some (r, off, cap, k) := v1
              have w2' : φ.hd g ver = some (r2, off2, cap2, k2) := w2
              rw [v1'] at w2'; cases w2'
              have har := cells_rel (cells_vr hy hok2) hok2
              have hl : (a.eval y).cells.toList.length = vy.cells.length := by simpa using har.size
              have hNk : cs.length ≤ cap * k := by rw [v6]; exact Nat.mul_le_mul_right k v7
              have ho : ∀ z ∈ (a.eval y).cells.toList, Hx.one z = true := fun z hz => by
                obtain ⟨i, hi⟩ := List.mem_iff_getElem?.1 hz
                have hlt : i < vy.cells.length := by
                  rw [← hl]
                  rcases Nat.lt_or_ge i (a.eval y).cells.toList.length with h' | h'
                  · exact h'
                  · rw [List.getElem?_eq_none h'] at hi; cases hi
                obtain ⟨g1, z', g2, g3, -⟩ := har.each i vy.cells[i] (by simp [hlt])
                have : z = z' := by
                  have g2' : (a.eval y).cells.toList[i]? = some z' := by simpa using g2
                  rw [hi] at g2'; exact Option.some.inj g2'
                subst this
                exact g3.one_of_cell g1
              obtain ⟨hrow', hsz⟩ := v8.store (q := q) har (by omega) (by omega)
              have hr := run (r := r) (q := off + q) e v4 (by omega) (by omega) ho
              have hheap := setRow_heap' (cs := (arr.toList.take (off + q) ++ (a.eval y).cells.toList ++ arr.toList.drop (off + q + (a.eval y).cells.toList.length)).toArray) v4
              refine .inr (.inl ⟨_, hr, _, hK, ?_⟩)
              rw [hdst]
              have hlt := lt_of_some v4
              have ho' : ∀ q', q' ≠ r → (w.heap.setIfInBounds r (.cells (arr.toList.take (off + q) ++ (a.eval y).cells.toList ++ arr.toList.drop (off + q + (a.eval y).cells.toList.length)).toArray elem (0, 0)))[q']? = w.heap[q']? ∧ perm q' = perm q' := fun q' hq' => ⟨by rw [set_get hlt, if_neg (Ne.symm hq')], rfl⟩
              have hE' : Evo w.heap perm (w.heap.setIfInBounds r (.cells (arr.toList.take (off + q) ++ (a.eval y).cells.toList ++ arr.toList.drop (off + q + (a.eval y).cells.toList.length)).toArray elem (0, 0))) perm :=
                Evo.at (by simp) ho' hp (by simp) (fun o v hi _ => by rw [imm_zero hp] at hi; cases hi) (by
                  rw [blockSize_cells v4, blockSize_cells (M := w.heap.setIfInBounds _ _) (by rw [set_get hlt, if_pos rfl]), hsz]; exact Nat.le_refl _)
              obtain ⟨hw1, hw2⟩ := hkl.wrVec (cs' := setRange cs q vy.cells) (N' := N) hg v1' v4 hsz.symm (by rw [setRange_len]; exact v6) v7 (hrow'.mono (hE'.le (fun _ _ => rfl) (Nat.le_refl _)))
              refine ⟨⟨φ, lam, perm, ?_, ?_, fun _ _ => rfl, fun _ _ _ h => h⟩, by simp [St.apply], rfl, rfl, rfl⟩
              · rw [hheap]; exact hw1
              · rw [hheap]; exact hw2
            · cases hst
          · exact hK.elim
        · exact hK.elim
      · exact hK.elim
    · exact hK.elim
  · exact hK.elim
end
end Go.Hx

/-
  Hx, part 17: append.
-/
namespace Go.Hx
open Go

section
variable {P : Program} {E : Env} [Glob] {φ : Phi} {lam : Nat → Nat} {perm : Perm} {S : St} {a : Act} {w : World} {o : Oper} {K : Upd → Prop}

/-- a block that a tmp may write, written; nothing else lies at that tmp -/
theorem FRs.wrSp {M : Mem} (h : FRs φ lam perm S a M) {d r0 lo lo' elem : Nat} {arr arr' : Array Value} (hd : S.deadAt (.t d)) (hp : perm r0 = some (.sp (.t d), lo))
    (hM : M[r0]? = some (.cells arr elem (0, 0))) (hs : arr.size = arr'.size) (hlo : lo ≤ lo') (hkeep : ∀ o, o < lo → arr'[o]? = arr[o]?) :
    FRs φ lam (ownP perm r0 (.sp (.t d)) lo') S a (M.setIfInBounds r0 (.cells arr' elem (0, 0))) ∧
    Evo M perm (M.setIfInBounds r0 (.cells arr' elem (0, 0))) (ownP perm r0 (.sp (.t d)) lo') := by
  have hlt := lt_of_some hM
  generalize hM' : M.setIfInBounds r0 (.cells arr' elem (0, 0)) = M'
  generalize hp' : ownP perm r0 (.sp (.t d)) lo' = perm'
  have hget : ∀ r', M'[r']? = if r0 = r' then some (.cells arr' elem (0, 0)) else M[r']? := fun r' => by rw [← hM']; exact set_get hlt r'
  have ho : ∀ r, r ≠ r0 → M'[r]? = M[r]? ∧ perm' r = perm r := fun r hr => ⟨by rw [hget, if_neg (Ne.symm hr)], by rw [← hp']; simp [ownP, hr]⟩
  have hp0 : perm' r0 = some (.sp (.t d), lo') := by rw [← hp']; simp [ownP]
  have hMr : M'[r0]? = some (.cells arr' elem (0, 0)) := by rw [hget, if_pos rfl]
  have hE : Evo M perm M' perm' := Evo.at (by rw [← hM']; simp) ho hp (by simp) (fun o v hi hc => by
      have hi' : o < lo := by simpa [imm, hp] using hi
      refine ⟨by simp only [imm, hp0, decide_eq_true_eq]; omega, ?_⟩
      rw [cellAt_cells hMr, hkeep o hi']
      rw [cellAt_cells hM] at hc; exact hc)
    (by rw [blockSize_cells hM, blockSize_cells hMr]; omega)
  have hC : (mkC φ S.hp.length perm M).le (mkC φ S.hp.length perm' M') := hE.le (fun _ _ => rfl) (Nat.le_refl _)
  have hRt : ∀ p v x, (p = .t d → v = .dead) → Rt perm M p v x → Rt perm' M' p v x := fun p v x hdd hr => by
    by_cases e : p = .t d
    · rw [hdd e]; exact Rt.dead
    · exact hr.other hp (by intro h; cases h; exact e rfl) ho
  have hmap : ∀ m ents clock, m < S.hp.length → M[φ m]? = some (.map ents clock) → M'[φ m]? = M[φ m]? := fun m ents clock _ hm =>
    (ho _ (fun e => by rw [e, hM] at hm; cases hm)).1
  refine ⟨⟨⟨fun b' cs1 hb' => ?_, fun b' ar' es hb' => ?_, fun b' k' cs1 ver hb' => ?_, fun b' m hb' => ?_, h.hr.hdlt⟩, fun s1 cs1 hs1 => ?_, fun t v hv => ?_, h.len, h.defers, fun r hr => ?_, GlOK.evo h.gl hE⟩, hE⟩
  · obtain ⟨h1, arr1, elem1, h2, h3⟩ := h.hr.cells b' cs1 hb'
    have hne : φ b' ≠ r0 := fun e2 => by change perm (φ b') = _ at h1; rw [e2, hp] at h1; simp at h1
    obtain ⟨e1, e2⟩ := ho _ hne
    exact ⟨by show perm' (φ b') = _; rw [e2]; exact h1, arr1, elem1, by show M'[φ b']? = _; rw [e1]; exact h2, h3.mono hC fun i v x _ hr => hRt _ _ _ (by simp) hr⟩
  · obtain ⟨h1, ents, clock, h2, h3⟩ := h.hr.maps b' ar' es hb'
    have hne : φ b' ≠ r0 := fun e2 => by change perm (φ b') = _ at h1; rw [e2, hp] at h1; simp at h1
    obtain ⟨e1, e2⟩ := ho _ hne
    exact ⟨by show perm' (φ b') = _; rw [e2]; exact h1, ents, clock, by show M'[φ b']? = _; rw [e1]; exact h2, h3.mono hC⟩
  · obtain ⟨r, off, cap, arr1, elem1, N, h1, h2, h3, h4, h5, h6, h7, h8⟩ := h.hr.vecs b' k' cs1 ver hb'
    have hne : r ≠ r0 := fun e2 => by rw [e2, hp] at h3; simp at h3
    obtain ⟨e1, e2⟩ := ho _ hne
    exact ⟨r, off, cap, arr1, elem1, N, h1, h2, by rw [e2]; exact h3, by rw [e1]; exact h4, h5, h6, h7, h8.mono hC⟩
  · obtain ⟨h0, h1, c1, c2, c3, h2⟩ := h.hr.eits b' m hb'
    have hne : φ b' ≠ r0 := fun e2 => by change perm (φ b') = _ at h1; rw [e2, hp] at h1; simp at h1
    obtain ⟨e1, e2⟩ := ho _ hne
    exact ⟨h0, by show perm' (φ b') = _; rw [e2]; exact h1, c1, c2, c3, by show M'[φ b']? = _; rw [e1]; exact h2⟩
  · obtain ⟨h1, arr1, elem1, h2, h3⟩ := h.br s1 cs1 hs1
    have hne : lam s1 ≠ r0 := fun e2 => by rw [e2, hp] at h1; simp at h1
    obtain ⟨e1, e2⟩ := ho _ hne
    exact ⟨by rw [e2]; exact h1, arr1, elem1, by rw [e1]; exact h2, h3.mono hC fun i v x _ hr => hRt _ _ _ (by simp) hr⟩
  · exact (h.tm t v hv).keep hC (hRt _ _ _ (fun e => hd v (by simp only [Pos.t.injEq] at e; rw [← e]; exact hv))) hmap (fun s1 cs1 hs1 => ⟨rfl, cs1, hs1, Nat.le_refl _⟩)
  · have hr' : M.size ≤ r := by rw [← hM'] at hr; simpa using hr
    rw [(ho r (by omega)).2]; exact h.fresh r hr'

/-- the cells that an operand brings -/
structure NewsR (C : Ctx) (k : Nat) (es : List (List V)) (news : List Value) : Prop where
  hk : ∀ e ∈ es, e.length = k
  len : news.length = es.length * k
  each : ∀ (i : Nat) v, es.flatten[i]? = some v → v.cell = true ∧ ∃ y, news[i]? = some y ∧ VR C v y

omit [Glob] in
theorem NewsR.one {C : Ctx} {k : Nat} {es : List (List V)} {news : List Value} (h : NewsR C k es news) : ∀ u ∈ news, u.oneCell' = true := fun u hu => by
  obtain ⟨i, hi⟩ := List.mem_iff_getElem?.1 hu
  have hlt : i < es.flatten.length := by
    rw [flatten_len es h.hk, ← h.len]
    rcases Nat.lt_or_ge i news.length with h' | h'
    · exact h'
    · rw [List.getElem?_eq_none h'] at hi; cases hi
  obtain ⟨h1, y, h2, h3⟩ := h.each i es.flatten[i] (by simp [hlt])
  rw [hi] at h2; cases h2
  exact one_cell (h3.one_of_cell h1)

omit [Glob] in
theorem NewsR.mono {C C' : Ctx} {k : Nat} {es : List (List V)} {news : List Value} (hC : C.le C') (h : NewsR C k es news) : NewsR C' k es news :=
  ⟨h.hk, h.len, fun i v hv => by obtain ⟨h1, y, h2, h3⟩ := h.each i v hv; exact ⟨h1, y, h2, h3.mono hC⟩⟩

omit [Glob] in
theorem NewsR.append {C : Ctx} {k : Nat} {es es' : List (List V)} {news news' : List Value} (h : NewsR C k es news) (h' : NewsR C k es' news') : NewsR C k (es ++ es') (news ++ news') := by
  have hl : es.flatten.length = news.length := by rw [flatten_len es h.hk, h.len]
  refine ⟨fun e he => ?_, by simp [h.len, h'.len, Nat.add_mul], fun i v hv => ?_⟩
  · rcases List.mem_append.1 he with he | he
    · exact h.hk e he
    · exact h'.hk e he
  · rw [List.flatten_append] at hv
    rcases Nat.lt_or_ge i news.length with hi | hi
    · rw [List.getElem?_append_left (by omega)] at hv ⊢
      exact h.each i v hv
    · rw [List.getElem?_append_right (by omega)] at hv ⊢
      rw [hl] at hv
      exact h'.each _ v hv

omit [Glob] in
/-- .. of a slice -/
theorem sl_news {φ : Phi} {nb : Nat} {perm : Perm} {M0 : Mem} {bx : Nat → Option (List V)} {lam : Nat → Nat} {k r : Nat} {es : List (List V)} {x : Value} (h : OV (mkC φ nb perm M0) M0 lam bx (.sl k es r) x) :
    ∃ base cap news, x = .slice base es.length cap ∧ es.length ≤ cap ∧ NewsR (mkC φ nb perm M0) k es news ∧ (es = [] → r = 1 → cap = 0) ∧
      ((base = none ∧ es = [] ∧ cap = 0) ∨ ∃ b off, base = some ⟨b, off, none⟩ ∧ ∀ j u, news[j]? = some u → cellAt M0 b (off + j) = some u ∧ imm perm b (off + j) = true) := by
  rcases h.sl with ⟨rfl, e⟩ | ⟨b, off, cap, e, hcap, hk, vals, hr, hv, hc, hz, -⟩
  · exact ⟨none, 0, [], e, Nat.le_refl _, ⟨by simp, by simp, fun i v hv => by simp at hv⟩, fun _ _ => rfl, .inl ⟨rfl, rfl, rfl⟩⟩
  · refine ⟨_, cap, (List.range (es.length * k)).map vals, e, hcap, ⟨hk, by simp, fun i v hi => ?_⟩, hz, .inr ⟨b, off, rfl, fun j u hj => ?_⟩⟩
    · have hlt : i < es.length * k := by
        rw [← flatten_len es hk]
        rcases Nat.lt_or_ge i es.flatten.length with h' | h'
        · exact h'
        · rw [List.getElem?_eq_none h'] at hi; cases hi
      exact ⟨hc v (List.mem_of_getElem? hi), vals i, by simp [hlt], hv i v hi⟩
    · simp only [List.getElem?_map] at hj
      cases hj2 : (List.range (es.length * k))[j]? with
      | none => rw [hj2] at hj; cases hj
      | some q =>
        rw [hj2] at hj
        have hlt : j < es.length * k := by
          rcases Nat.lt_or_ge j (es.length * k) with h' | h'
          · exact h'
          · rw [List.getElem?_eq_none (by simpa using h')] at hj2; cases hj2
        have : q = j := by rw [List.getElem?_range hlt] at hj2; exact (Option.some.inj hj2).symm
        subst this
        simp at hj; subst hj
        have := hr q hlt
        simp only [mkC] at this
        split at this
        · rename_i hi; exact ⟨this, hi⟩
        · cases this

omit [Glob] in
theorem drew_heap (w : World) : w.drew.heap = w.heap := rfl

omit [Glob] in
/-- what is appended -/
theorem sl_src {nb : Nat} {k r : Nat} {es : List (List V)} {x : Value} {t1 e' : Nat} (hk : P.underlying t1 = some (.slice e')) (h : OV (mkC φ nb perm w.heap) w.heap lam S.box (.sl k es r) x) :
    ∃ news, Src P k t1 x es.length news w ∧ NewsR (mkC φ nb perm w.heap) k es news := by
  obtain ⟨base, cap, news, e, -, hn, -, hb⟩ := sl_news h
  refine ⟨news, ?_, hn⟩
  rcases hb with ⟨rfl, rfl, rfl⟩ | ⟨b, off, rfl, hc⟩
  · have : news = [] := List.eq_nil_of_length_eq_zero (by rw [hn.len]; simp)
    subst this; rw [e]; exact Src.ofNil w hk 0
  · rw [e]
    exact Src.ofSlice w hk _ _ _ news hn.len (fun j u hj => by rw [addA, cell?_eq]; exact (hc j u hj).1) hn.one

omit [Glob] in
theorem str_src {nb : Nat} {t1 : Nat} (hk : P.underlying t1 = some .string) (s : ByteArray) : Src P 1 t1 (.string s) s.size (byteCells s) w ∧ NewsR (mkC φ nb perm w.heap) 1 (s.data.toList.map fun c => [V.raw (.int .u8 c.toNat)]) (byteCells s) := by
  refine ⟨Src.ofString w hk s, ⟨fun e he => ?_, by simp [byteCells], fun i v hv => ?_⟩⟩
  · obtain ⟨c, -, rfl⟩ := List.mem_map.1 he; rfl
  · have hfl : ∀ l : List UInt8, (l.map fun c => [V.raw (.int .u8 c.toNat)]).flatten = l.map fun c => V.raw (.int .u8 c.toNat) := fun l => by
      induction l with
      | nil => rfl
      | cons c l ih => simp only [List.map_cons, List.flatten_cons, ih]; rfl
    rw [hfl, List.getElem?_map] at hv
    cases hi : s.data.toList[i]? with
    | none => rw [hi] at hv; cases hv
    | some c =>
      rw [hi] at hv; simp at hv; subst hv
      refine ⟨rfl, .int .u8 c.toNat, ?_, .raw rfl⟩
      simp only [byteCells, List.getElem?_map, hi, Option.map_some]

omit [Glob] in
theorem run_append_row {t tx ty e : TypeId} {i : TypeInfo} (ht : P.underlying t = some (.slice e)) (hi : P.info? e = some i) {b off sLen sCap elem : Nat} {cur : Array Value} (hg : w.heap[b]? = some (.cells cur elem (0, 0)))
    {x : Value} {n : Nat} {news : List Value} (hs : Src P i.size tx x n news w) (hroom : sLen + n ≤ sCap) (hfit : off + sLen * i.size + news.length ≤ cur.size) :
    (Builtin.append_ #[t, tx] ty #[.slice (some ⟨b, off, none⟩) sLen sCap, x]).run P w =
      .ok (.slice (some ⟨b, off, none⟩) (sLen + n) sCap) (w.setRow b (cur.toList.take (off + sLen * i.size) ++ news ++ cur.toList.drop (off + sLen * i.size + news.length)).toArray) := by
  have hst := run_storeCells_at P b (off + sLen * i.size) elem news 0 cur w hg (by simpa using hfit) hs.one
  simp only [Nat.add_zero] at hst
  rcases hs.kind with ⟨e', hk⟩ | hk <;> simp [Builtin.append_, run_underlying ht, run_underlying hk, sizeOf, typeInfo, hi, hs.len, hroom, hs.cells, Addr.add_lit, hst]

omit [Glob] in
theorem run_append_none {t tx ty e : TypeId} {i : TypeInfo} (ht : P.underlying t = some (.slice e)) (hi : P.info? e = some i) {base : Option Addr} {sLen sCap : Nat}
    {x : Value} (hs : Src P i.size tx x 0 [] w) (hroom : sLen ≤ sCap) :
    (Builtin.append_ #[t, tx] ty #[.slice base sLen sCap, x]).run P w = .ok (.slice base sLen sCap) w := by
  rcases hs.kind with ⟨e', hk⟩ | hk <;> cases base <;> simp [Builtin.append_, run_underlying ht, run_underlying hk, sizeOf, typeInfo, hi, hs.len, hroom, hs.cells, storeCells]
end
end Go.Hx

/-
  Hx, part 18: append, both arms.
-/
namespace Go.Hx
open Go

section
variable {P : Program} {E : Env} [Glob] {φ : Phi} {lam : Nat → Nat} {perm : Perm} {S : St} {a : Act} {w : World} {o : Oper} {K : Upd → Prop}

omit [Glob] in
theorem set_set_dead (tm : List V) (d : Nat) (v : V) : (tm.set d .dead).set d v = tm.set d v := by simp

omit [Glob] in
/-- the new slice's relation, its cells known -/
theorem sl_of {φ : Phi} {nb : Nat} {perm : Perm} {M : Mem} {C : Ctx} {k r b off cap : Nat} {es : List (List V)} {news : List Value} (hC : C.le (mkC φ nb perm M)) (hn : NewsR C k es news) (hcap : es.length ≤ cap)
    (hz : es = [] → r = 1 → cap = 0) (h3 : r ≠ 3) (hr : ∀ (j : Nat) u, news[j]? = some u → cellAt M b (off + j) = some u ∧ imm perm b (off + j) = true) : VR (mkC φ nb perm M) (.sl k es r) (.slice (some ⟨b, off, none⟩) es.length cap) := by
  refine VR.sl (fun i => (news[i]?).getD undef) rfl hcap hn.hk (fun i hi => ?_) (fun i v hv => ?_) (fun v hv => ?_) hz h3
  · have hlt : i < news.length := by rw [hn.len]; exact hi
    have hj : news[i]? = some news[i] := by simp [hlt]
    obtain ⟨h1, h2⟩ := hr i _ hj
    simp only [mkC, h2, if_true, h1, hj, Option.getD_some]
  · obtain ⟨-, y, h2, h3⟩ := hn.each i v hv
    rw [h2]; exact h3.mono hC
  · obtain ⟨i, hi⟩ := List.mem_iff_getElem?.1 hv
    exact (hn.each i v hi).1

theorem append_core {oa : OA} (hE : EnvE P E) (h : FRs φ lam perm S a w.heap) {x y : Operand} {t0 t1 elem kk d r : Nat} {es es' : List (List V)} (hop : o.op = .call { callee := .builtin .append, args := #[x, y], argTypes := #[t0, t1] })
    (hd : o.dst = some d) (hs : (E.ti t0).sh = .slice elem kk) (hok : (E.ti elem).ok = true) (hb0 : (E.ti elem).bytes ≠ 0) (hr0 : 1 ≤ r % 3)
    (hx : OV (mkC φ S.hp.length perm w.heap) w.heap lam S.box (.sl kk es r) (a.eval x)) (hrx : Rts perm w.heap oa.take (.sl kk es r) (a.eval x))
    {news : List Value} (hsrc : Src P kk t1 (a.eval y) es'.length news w) (hnews : NewsR (mkC φ S.hp.length perm w.heap) kk es' news)
    (hbig : (es.length + es'.length) * (E.ti elem).bytes ≤ 17592186044416) (hK : (Out.val (some d) oa.take (.sl kk (es ++ es') r)).wp K) : Does P o a w (R0 φ perm S a w o K) := by
  obtain ⟨ht, inf, hinf, hk⟩ : P.underlying t0 = some (.slice elem) ∧ ∃ inf, P.info? elem = some inf ∧ inf.size = kk := by have := (TIok.sh' hE.ok hs (by simp)).sh; rw [hs] at this; exact this
  obtain ⟨inf', hinf', hsz, hby, z, hz, hzr, hzl, -⟩ := (hE.ok elem hok).info
  rw [hinf] at hinf'; cases hinf'
  subst hk
  obtain ⟨base, cap, olds, e, hcap, hold, hzc, hbase⟩ := sl_news hx
  have hm := hsrc.newsLen
  have all := hold.append hnews
  have hlen : (es ++ es').length = es.length + es'.length := by simp
  have hpos : 0 < inf.bytes := by rw [hby]; omega
  have hsmall : es.length + es'.length ≤ 17592186044416 := by
    have : (es.length + es'.length) * 1 ≤ (es.length + es'.length) * (E.ti elem).bytes := Nat.mul_le_mul_left _ (by omega)
    omega
  have runB : ∀ {v : Value} {w' : World}, (Builtin.append_ #[t0, t1] o.type #[a.eval x, a.eval y]).run P w = .ok v w' → (execOp a.eval o).run P w = .ok (.value v) w' := fun hr => by
    refine run_builtin hop ?_
    simp [builtin, hr]
  by_cases hroom : es.length + es'.length ≤ cap
  · by_cases hmz : es' = []
    · subst hmz
      have hn0 : news = [] := List.eq_nil_of_length_eq_zero (by rw [hm]; simp)
      subst hn0
      refine does_val h (take := oa.take) (v := .sl inf.size es r) (x := a.eval x) (runB ?_) hx hrx (by rw [hd]; simpa using hK)
      rw [e]
      exact run_append_none ht hinf hsrc hcap
    · have hm0 : 0 < es'.length := List.length_pos_iff.2 hmz
      rcases hbase with ⟨rfl, rfl, rfl⟩ | ⟨b, off, rfl, hc⟩
      · rw [List.length_nil] at hroom; omega
      · obtain ⟨perm1, hF, hEv, hR⟩ := rights_to h oa.take (.t d) hrx
        have hF := hF.kill d
        rw [e] at hR
        unfold Rt at hR
        obtain ⟨g1, cur, el', g2, g3⟩ := hR (by omega) (by omega)
        simp only at g1 g2 g3
        have hdead : ({ S with tm := ((oa.take.map fun t => (t, V.dead)).foldl (fun tm p => tm.set p.1 p.2) S.tm).set d .dead } : St).deadAt (.t d) := fun v hv => by
          simp only [List.getElem?_set] at hv
          simp at hv; exact hv.2.symm
        have hnl : news.length = es'.length * inf.size := hm
        have hfit : off + es.length * inf.size + news.length ≤ cur.size := by
          have : (es.length + es'.length) * inf.size ≤ cap * inf.size := Nat.mul_le_mul_right _ hroom
          rw [Nat.add_mul] at this; omega
        have hrun := run_append_row (t := t0) (ty := o.type) (sCap := cap) ht hinf g2 hsrc hroom hfit
        generalize hcur' : (cur.toList.take (off + es.length * inf.size) ++ news ++ cur.toList.drop (off + es.length * inf.size + news.length)).toArray = cur' at hrun
        have hcl : cur.size = cur.toList.length := by simp
        have hsize : cur.size = cur'.size := by
          rw [← hcur']; simp; omega
        have hlow : ∀ q, q < off + es.length * inf.size → cur'[q]? = cur[q]? := fun q hq => by
          rw [← hcur', List.getElem?_toArray, List.append_assoc, List.getElem?_append_left (by simp; omega), List.getElem?_take, if_pos hq]
          simp
        have hmid : ∀ j u, news[j]? = some u → cur'[off + es.length * inf.size + j]? = some u := fun j u hj => by
          have hjl : j < news.length := by
            rcases Nat.lt_or_ge j news.length with h' | h'
            · exact h'
            · rw [List.getElem?_eq_none h'] at hj; cases hj
          rw [← hcur', List.getElem?_toArray, List.append_assoc, List.getElem?_append_right (by simp; omega), List.getElem?_append_left (by simp; omega)]
          rw [← hj]; congr 1; simp; omega
        obtain ⟨hW, hE2⟩ := hF.wrSp (lo' := off + (es.length + es'.length) * inf.size) hdead g1 g2 hsize (by rw [Nat.add_mul]; omega) hlow
        have hheap := setRow_heap' (cs := cur') g2
        refine .inl ⟨_, _, runB (by rw [e]; exact hrun), _, hK, ?_⟩
        rw [hd]
        have hMr : (w.heap.setIfInBounds b (.cells cur' el' (0, 0)))[b]? = some (.cells cur' el' (0, 0)) := by rw [set_get (lt_of_some g2), if_pos rfl]
        have hCall : (mkC φ S.hp.length perm w.heap).le (mkC φ S.hp.length (ownP perm1 b (.sp (.t d)) (off + (es.length + es'.length) * inf.size)) (w.heap.setIfInBounds b (.cells cur' el' (0, 0)))) :=
          (hEv.trans hE2).le (fun _ _ => rfl) (Nat.le_refl _)
        have hval : VR (mkC φ S.hp.length (ownP perm1 b (.sp (.t d)) (off + (es.length + es'.length) * inf.size)) (w.heap.setIfInBounds b (.cells cur' el' (0, 0)))) (.sl inf.size (es ++ es') r) (.slice (some ⟨b, off, none⟩) (es ++ es').length cap) := by
          refine sl_of hCall all (by rw [hlen]; exact hroom) (fun hh => by simp at hh; exact absurd hh.2 hmz) (by omega) (fun j u hj => ?_)
          have hjl : j < (olds ++ news).length := by
            rcases Nat.lt_or_ge j (olds ++ news).length with h' | h'
            · exact h'
            · rw [List.getElem?_eq_none h'] at hj; cases hj
          have hol : olds.length = es.length * inf.size := hold.len
          refine ⟨?_, ?_⟩
          · rw [cellAt_cells hMr]
            rcases Nat.lt_or_ge j olds.length with h' | h'
            · rw [List.getElem?_append_left h'] at hj
              rw [hlow _ (by omega)]
              rw [← cellAt_cells g2]; exact (hc j u hj).1
            · rw [List.getElem?_append_right h'] at hj
              have := hmid _ u hj
              rwa [show off + es.length * inf.size + (j - olds.length) = off + j by omega] at this
          · have hjl' : j < olds.length + news.length := by simpa using hjl
            simp only [imm, ownP, if_true, decide_eq_true_eq]
            rw [Nat.add_mul]; omega
        have hres := (hW.setT (d := d) (v := .sl inf.size (es ++ es') r) (x := .slice (some ⟨b, off, none⟩) (es ++ es').length cap) ⟨hval, by
          unfold Rt
          intro _ hcap2
          refine ⟨by simp [ownP], cur', el', hMr, ?_⟩
          rw [← hsize]; exact g3⟩)
        refine ⟨⟨φ, lam, ownP perm1 b (.sp (.t d)) (off + (es.length + es'.length) * inf.size), ?_, ?_, fun _ _ => rfl, fun _ _ _ h => h⟩, Nat.le_refl _, rfl, rfl, rfl⟩
        · rw [hheap]
          rw [hlen] at hres
          have hst : St.apply S { tw := oa.take.map (fun t => (t, V.dead)) ++ [(d, V.sl inf.size (es ++ es') r)] } = { S with tm := (((oa.take.map fun t => (t, V.dead)).foldl (fun tm p => tm.set p.1 p.2) S.tm).set d .dead).set d (.sl inf.size (es ++ es') r) } := by
            simp only [St.apply, List.foldl_append, List.foldl_cons, List.foldl_nil, set_set_dead]
          rw [hst]
          exact hres
        · rw [hheap]; exact hEv.trans hE2
  · have hg : cap < es.length + es'.length := by omega
    have hfirst : (Builtin.firstCells inf.size es.length (.slice base es.length cap)).run P w.drew = .ok olds.toArray w.drew := by
      rcases hbase with ⟨rfl, rfl, rfl⟩ | ⟨b, off, rfl, hc⟩
      · have : olds = [] := List.eq_nil_of_length_eq_zero (by rw [hold.len]; simp)
        subst this
        exact run_firstCells_none w.drew _ _ _ _
      · exact run_firstCells_some w.drew _ _ _ _ _ olds hold.len (fun j u hj => by rw [addA, cell?_eq, drew_heap]; exact (hc j u hj).1)
    have hrun := run_append_grow_src w t0 t1 o.type elem inf z ht hinf hz base es.length cap olds hfirst (a.eval y) es'.length news hsrc hg (by omega) (growslice_fits hg (by rw [hby]; omega))
    have hcge := grownCap_ge w (es.length + es'.length) cap elem
    generalize grownCap w (es.length + es'.length) cap elem = ncap at hrun hcge
    have hzsz : z.cells.size = inf.size := by rw [hzr.len, hzl, hsz]
    generalize hrow : (olds ++ news).toArray ++ Builtin.zeroCells z.cells (ncap - (es.length + es'.length)) = row at hrun
    have hol : (olds ++ news).length = (es.length + es'.length) * inf.size := by rw [all.len, hlen]
    have hrs : row.size = ncap * inf.size := by
      rw [← hrow]
      simp only [Array.size_append, List.size_toArray, hol, size_zeroCells, hzsz, ← Nat.add_mul]
      congr 1; omega
    have hk := (h.kills oa.take).kill d
    have hpush := hk.pushed (.cells row elem) (perm' := ownP perm w.heap.size (.sp (.t d)) ((es.length + es'.length) * inf.size)) (fun r hr => by simp [ownP, Nat.ne_of_lt hr]) (fun r hr => by
      simp only [ownP]; rw [if_neg (by omega)]; exact h.fresh r (by omega))
    have hE2 : Evo w.heap perm (w.heap.push (.cells row elem)) (ownP perm w.heap.size (.sp (.t d)) ((es.length + es'.length) * inf.size)) := Evo.push _ (fun r hr => by simp [ownP, Nat.ne_of_lt hr])
    have hMr : (w.heap.push (.cells row elem))[w.heap.size]? = some (.cells row elem (0, 0)) := push_last
    have hval : VR (mkC φ S.hp.length (ownP perm w.heap.size (.sp (.t d)) ((es.length + es'.length) * inf.size)) (w.heap.push (.cells row elem))) (.sl inf.size (es ++ es') r) (.slice (some ⟨w.heap.size, 0, none⟩) (es ++ es').length ncap) := by
      refine sl_of (hE2.le (fun _ _ => rfl) (Nat.le_refl _)) all (by rw [hlen]; exact hcge) (fun hh => by rw [← hlen, hh] at hg; simp at hg) (by omega) (fun j u hj => ?_)
      have hjl : j < (olds ++ news).length := by
        rcases Nat.lt_or_ge j (olds ++ news).length with h' | h'
        · exact h'
        · rw [List.getElem?_eq_none h'] at hj; cases hj
      refine ⟨?_, ?_⟩
      · rw [cellAt_cells hMr, ← hrow, Nat.zero_add, Array.getElem?_append_left (by simpa using hjl)]
        simpa using hj
      · simp only [imm, ownP, if_true, decide_eq_true_eq]
        omega
    have hres := (hpush.setT (d := d) (v := .sl inf.size (es ++ es') r) (x := .slice (some ⟨w.heap.size, 0, none⟩) (es ++ es').length ncap) ⟨hval, by
          unfold Rt
          intro _ hcap2
          exact ⟨by simp [ownP, hlen], row, elem, hMr, by simp [hrs]⟩⟩)
    refine .inl ⟨_, _, runB (by rw [e]; exact hrun), _, hK, ?_⟩
    rw [hd]
    refine ⟨⟨φ, lam, _, ?_, hE2, fun _ _ => rfl, fun _ _ _ h => h⟩, Nat.le_refl _, rfl, rfl, rfl⟩
    have hst : St.apply S { tw := oa.take.map (fun t => (t, V.dead)) ++ [(d, V.sl inf.size (es ++ es') r)] } = { S with tm := (((oa.take.map fun t => (t, V.dead)).foldl (fun tm p => tm.set p.1 p.2) S.tm).set d .dead).set d (.sl inf.size (es ++ es') r) } := by
      simp only [St.apply, List.foldl_append, List.foldl_cons, List.foldl_nil, set_set_dead]
    rw [hlen] at hres
    rw [hst]
    exact hres

end
end Go.Hx

/-
  Hx: append, onto vectors too.
-/
namespace Go.Hx
open Go

section
variable {P : Program} {E : Env} [Glob] {φ : Phi} {lam : Nat → Nat} {perm : Perm} {S : St} {a : Act} {w : World} {o : Oper} {K : Upd → Prop}

omit [Glob] in
theorem rowsOf_len' (k : Nat) : ∀ (n : Nat) (cs : List V), (rowsOf k n cs).length = n
  | 0, _ => rfl
  | n + 1, cs => by simp [rowsOf, rowsOf_len' k n]

omit [Glob] in
theorem rowsOf_each' (k : Nat) : ∀ (n : Nat) (cs : List V), n * k ≤ cs.length → ∀ e ∈ rowsOf k n cs, e.length = k
  | 0, _, _, e, he => by simp [rowsOf] at he
  | n + 1, cs, h, e, he => by
    rw [Nat.add_mul] at h
    simp only [rowsOf, List.mem_cons] at he
    rcases he with rfl | he
    · simp; omega
    · exact rowsOf_each' k n _ (by simp; omega) e he

omit [Glob] in
theorem rowsOf_flat' (k : Nat) : ∀ (n : Nat) (cs : List V), n * k ≤ cs.length → (rowsOf k n cs).flatten = cs.take (n * k)
  | 0, cs, _ => by simp [rowsOf]
  | n + 1, cs, h => by
    rw [Nat.add_mul] at h
    simp only [rowsOf, List.flatten_cons, rowsOf_flat' k n _ (show n * k ≤ (cs.drop k).length by simp; omega)]
    rw [Nat.add_mul, Nat.one_mul, Nat.add_comm, List.take_add]

omit [Glob] in
theorem NewsR.ar {C : Ctx} {k : Nat} {es : List (List V)} {news : List Value} (h : NewsR C k es news) (hok : es.flatten.all cellOk = true) : AR C es.flatten news.toArray :=
  ⟨by simp [h.len, flatten_len es h.hk], fun i v hv => by
    obtain ⟨h1, y, h2, h3⟩ := h.each i v hv
    have := List.all_eq_true.1 hok v (List.mem_of_getElem? hv)
    simp only [cellOk, Bool.and_eq_true] at this
    exact ⟨h1, y, by simpa using h2, h3, nil_rt h3 this.2⟩⟩

theorem vec_news {k ver q n : Nat} {g : Nat} {cs : List V} {x : Value} (h : FRs φ lam perm S a w.heap) (hg : S.hp[g]? = some (.vec k cs ver)) (hx : OV (mkC φ S.hp.length perm w.heap) w.heap lam S.box (.gs g ver q n) x) (hfit : (q + n) * k ≤ cs.length) :
    ∃ r off cap news, x = .slice (some ⟨r, off + q * k, none⟩) n (cap - q) ∧ NewsR (mkC φ S.hp.length perm w.heap) k (rowsOf k n (cs.drop (q * k))) news ∧ φ.hd g ver = some (r, off, cap, k) ∧ q + n ≤ cap ∧
      ∀ j u, news[j]? = some u → cellAt w.heap r (off + q * k + j) = some u := by
  obtain ⟨r, off, cap, arr, elem, N, v1, v2, hp, v4, v5, v6, v7, v8⟩ := h.hr.vecs g k cs ver hg
  obtain ⟨r2, off2, cap2, k2, w2, hcap, e⟩ := VR.gsI hx
  have v1' : φ.hd g ver = some (r, off, cap, k) := v1
  have w2' : φ.hd g ver = some (r2, off2, cap2, k2) := w2
  rw [v1'] at w2'; cases w2'
  have hfit' := hfit
  rw [Nat.add_mul] at hfit
  have hNk : cs.length ≤ cap * k := by rw [v6]; exact Nat.mul_le_mul_right k v7
  refine ⟨r, off, cap, (List.range (n * k)).map fun i => (arr[off + q * k + i]?).getD undef, e, ⟨rowsOf_each' k n _ (by simp; omega), by simp [rowsOf_len'], fun i v hv => ?_⟩, v1', hcap, fun j u hj => ?_⟩
  · rw [rowsOf_flat' k n _ (by simp; omega), List.getElem?_take] at hv
    split at hv
    · rename_i hi
      rw [List.getElem?_drop] at hv
      obtain ⟨h1, y, h2, h3, -⟩ := v8.each _ v hv
      refine ⟨h1, y, ?_, h3⟩
      rw [← Nat.add_assoc] at h2
      simp [hi, h2]
    · cases hv
  · simp only [List.getElem?_map] at hj
    rcases Nat.lt_or_ge j (n * k) with hjl | hjl
    · rw [List.getElem?_range hjl] at hj
      simp at hj
      rw [cellAt_cells v4]
      have : off + q * k + j < arr.size := by omega
      rw [← hj]; simp [this]
    · rw [List.getElem?_eq_none (by simpa using hjl)] at hj; cases hj

theorem srcV_src (hE : EnvE P E) (h : FRs φ lam perm S a w.heap) {t1 kk : Nat} {v : V} {x : Value} {es' : List (List V)} (hv : srcV (E.ti t1).sh kk S.hp v = some es')
    (hx : OV (mkC φ S.hp.length perm w.heap) w.heap lam S.box v x) : ∃ news, Src P kk t1 x es'.length news w ∧ NewsR (mkC φ S.hp.length perm w.heap) kk es' news := by
  have hsh := fun {s : Sh} (hs : (E.ti t1).sh = s) (hne : s ≠ .other) => (TIok.sh' hE.ok hs hne).sh
  cases v <;> simp only [srcV] at hv <;> try (cases hv; done)
  case sl k' es r =>
    split at hv
    · rename_i e' k0 hs
      split at hv
      · rename_i hk; cases hv; subst hk
        obtain ⟨ht1, -⟩ : P.underlying t1 = some (.slice e') ∧ _ := by have := (TIok.sh' hE.ok hs (by simp)).sh; rw [hs] at this; exact this
        exact sl_src ht1 hx
      · cases hv
    · cases hv
  case raw y =>
    cases y <;> simp only [srcV] at hv <;> try (cases hv; done)
    case string s =>
      split at hv
      · rename_i hs
        split at hv
        · rename_i hk; cases hv; subst hk
          have ht1 : P.underlying t1 = some .string := by have := (TIok.sh' hE.ok hs (by simp)).sh; rw [hs] at this; exact this
          have hl : (s.data.toList.map fun c => [V.raw (.int .u8 c.toNat)]).length = s.size := by simp
          rw [hl, show x = .string s from hx.raw]
          exact ⟨_, str_src ht1 s⟩
        · cases hv
      · cases hv
  case gs g ver q n =>
    split at hv
    · rename_i e' k0 k cs ver' hs hg
      split at hv
      · rename_i hc; cases hv
        obtain ⟨rfl, rfl, hfit⟩ := hc
        obtain ⟨ht1, -⟩ : P.underlying t1 = some (.slice e') ∧ _ := by have := (TIok.sh' hE.ok hs (by simp)).sh; rw [hs] at this; exact this
        obtain ⟨r, off, cap, news, e, hn, -, -, hc⟩ := vec_news h hg hx hfit
        refine ⟨news, ?_, hn⟩
        rw [e, rowsOf_len']
        have hl := hn.len; rw [rowsOf_len'] at hl
        exact Src.ofSlice w ht1 _ _ _ news hl (fun j u hj => by rw [addA, cell?_eq]; exact hc j u hj) hn.one
      · cases hv
    · cases hv

omit [Glob] in
theorem VecR.app {C : Ctx} {cs vs : List V} {arr : Array Value} {xs : List Value} {off : Nat} (h : VecR C cs arr off) (hv : AR C vs xs.toArray) (hsz : off + cs.length + xs.length ≤ arr.size) :
    VecR C (cs ++ vs) (arr.toList.take (off + cs.length) ++ xs ++ arr.toList.drop (off + cs.length + xs.length)).toArray off := by
  have hal : arr.toList.length = arr.size := by simp
  have hq : (arr.toList.take (off + cs.length)).length = off + cs.length := by simp; omega
  have hl : xs.length = vs.length := by simpa using hv.size
  refine ⟨fun i v hi => ?_⟩
  rcases Nat.lt_or_ge i cs.length with hlt | hge
  · rw [List.getElem?_append_left hlt] at hi
    obtain ⟨h1, x, h2, h3⟩ := h.each i v hi
    refine ⟨h1, x, ?_, h3⟩
    rw [List.getElem?_toArray, List.append_assoc, List.getElem?_append_left (by omega), List.getElem?_take, if_pos (by omega)]
    simpa using h2
  · rw [List.getElem?_append_right hge] at hi
    obtain ⟨h1, x, h2, h3⟩ := hv.each _ v hi
    refine ⟨h1, x, ?_, h3⟩
    have h2' : xs[i - cs.length]? = some x := by simpa using h2
    have hil : i - cs.length < xs.length := by
      rcases Nat.lt_or_ge (i - cs.length) xs.length with h' | h'
      · exact h'
      · rw [List.getElem?_eq_none h'] at h2'; cases h2'
    rw [List.getElem?_toArray, List.append_assoc, List.getElem?_append_right (by omega), hq, List.getElem?_append_left (by omega)]
    rw [show off + i - (off + cs.length) = i - cs.length by omega]; exact h2'
end
end Go.Hx

/-
  Hx: append, all of it.
-/
namespace Go.Hx
open Go

section
variable {P : Program} {E : Env} [Glob] {φ : Phi} {lam : Nat → Nat} {perm : Perm} {S : St} {a : Act} {w : World} {o : Oper} {K : Upd → Prop}

omit [Glob] in
theorem app_run {x y : Operand} {t0 t1 : Nat} {v : Value} {w' : World} (hop : o.op = .call { callee := .builtin .append, args := #[x, y], argTypes := #[t0, t1] })
    (hr : (Builtin.append_ #[t0, t1] o.type #[a.eval x, a.eval y]).run P w = .ok v w') : (execOp a.eval o).run P w = .ok (.value v) w' := by
  refine run_builtin hop ?_
  simp [builtin, hr]

omit [Glob] in
/-- the row that append makes -/
theorem grown_row {elem k ncap m : Nat} {inf : TypeInfo} {z : Value} {olds news : List Value} {row : Array Value} (hk : inf.size = k) (hz : z.cells.size = inf.size) (hol : (olds ++ news).length = m * k) (hge : m ≤ ncap)
    (hrow : (olds ++ news).toArray ++ Builtin.zeroCells z.cells (ncap - m) = row) : row.size = ncap * k := by
  rw [← hrow]
  simp only [Array.size_append, List.size_toArray, hol, size_zeroCells, hz, hk, ← Nat.add_mul]
  congr 1; omega

theorem append_new {oa : OA} (hE : EnvE P E) (h : FRs φ lam perm S a w.heap) {x y : Operand} {t0 t1 elem kk d : Nat} {es' : List (List V)} (hop : o.op = .call { callee := .builtin .append, args := #[x, y], argTypes := #[t0, t1] })
    (hd : o.dst = some d) (hs : (E.ti t0).sh = .slice elem kk) (hok : (E.ti elem).ok = true) (hb0 : (E.ti elem).bytes ≠ 0) (hx : a.eval x = .slice none 0 0)
    {news : List Value} (hsrc : Src P kk t1 (a.eval y) es'.length news w) (hnews : NewsR (mkC φ S.hp.length perm w.heap) kk es' news) (hne : es'.isEmpty = false) (hcell : es'.flatten.all cellOk = true)
    (hbig : es'.length * (E.ti elem).bytes ≤ 17592186044416)
    (hK : (Out.ok { tw := oa.take.map (fun t => (t, V.dead)) ++ [(d, .gs S.hp.length 0 0 es'.length)], hw := some (S.hp ++ [.vec kk es'.flatten 0]) }).wp K) : Does P o a w (R0 φ perm S a w o K) := by
  obtain ⟨ht, inf, hinf, hk⟩ : P.underlying t0 = some (.slice elem) ∧ ∃ inf, P.info? elem = some inf ∧ inf.size = kk := by have := (TIok.sh' hE.ok hs (by simp)).sh; rw [hs] at this; exact this
  obtain ⟨inf', hinf', hsz, hby, z, hz, hzr, hzl, -⟩ := (hE.ok elem hok).info
  have hii : inf = inf' := Option.some.inj (hinf.symm.trans hinf')
  subst hii
  subst hk
  have hm0 : 0 < es'.length := by
    cases es' with
    | nil => simp at hne
    | cons => simp
  have hsmall : es'.length ≤ 17592186044416 := by
    have : es'.length * 1 ≤ es'.length * (E.ti elem).bytes := Nat.mul_le_mul_left _ (by omega)
    omega
  have hrun := run_append_grow_src w t0 t1 o.type elem inf z ht hinf hz none 0 0 [] (run_firstCells_none w.drew _ _ _ _) (a.eval y) es'.length news hsrc (by omega) (by omega) (growslice_fits (by omega) (by rw [Nat.zero_add, hby]; omega))
  have hcge := grownCap_ge w (0 + es'.length) 0 elem
  generalize grownCap w (0 + es'.length) 0 elem = ncap at hrun hcge
  have hzsz : z.cells.size = inf.size := by rw [hzr.len, hzl, hsz]
  rw [Nat.zero_add] at hrun hcge
  generalize hrow : (([] : List Value) ++ news).toArray ++ Builtin.zeroCells z.cells (ncap - es'.length) = row at hrun
  have hrs := grown_row (elem := elem) rfl hzsz (by simpa using hnews.len) hcge hrow
  have hp := h.pushed (.cells row elem) (perm' := ownP perm w.heap.size (.hb S.hp.length) 0) (fun r hr => by simp [ownP, Nat.ne_of_lt hr]) (fun r hr => by
      simp only [ownP]; rw [if_neg (by omega)]; exact h.fresh r (by omega))
  have hE2 : Evo w.heap perm (w.heap.push (.cells row elem)) (ownP perm w.heap.size (.hb S.hp.length) 0) := Evo.push _ (fun r hr => by simp [ownP, Nat.ne_of_lt hr])
  have har := hnews.ar hcell
  obtain ⟨hadd, hle⟩ := hp.addVec (k := inf.size) (off := 0) (cap := ncap) (N := es'.length) (cs := es'.flatten) (by simp [ownP]) push_last (by omega) (flatten_len es' hnews.hk) hcge
    ⟨fun i v hv => by
      obtain ⟨h1, y, h2, h3, h4⟩ := har.each i v hv
      refine ⟨h1, y, ?_, h3.mono (hE2.le (fun _ _ => rfl) (Nat.le_refl _)), h4⟩
      have h2' : news[i]? = some y := by simpa using h2
      have hil : i < news.length := by
        rcases Nat.lt_or_ge i news.length with h' | h'
        · exact h'
        · rw [List.getElem?_eq_none h'] at h2'; cases h2'
      rw [Nat.zero_add, ← hrow, Array.getElem?_append_left (by simpa using hil)]
      simpa using h2'⟩
  refine .inl ⟨_, _, app_run hop (by rw [hx]; exact hrun), _, hK, ?_⟩
  rw [hd]
  refine ⟨⟨φ.setHd S.hp.length 0 (w.heap.size, 0, ncap, inf.size), lam, _, result_tw hadd oa.take d (v := .gs S.hp.length 0 0 es'.length) ?_ (fun _ _ _ => by unfold Rt; trivial), hE2, fun _ _ => rfl, hle⟩, by simp [St.apply], rfl, rfl, rfl⟩
  have := VR.gs (C := mkC (φ.setHd S.hp.length 0 (w.heap.size, 0, ncap, inf.size)) (S.hp ++ [HObj.vec inf.size es'.flatten 0]).length (ownP perm w.heap.size (.hb S.hp.length) 0) (w.heap.push (.cells row elem))) (g := S.hp.length) (ver := 0) (o := 0) (n := es'.length)
    (Phi.setHd_same φ _ _ _) (by omega)
  simpa [OV] using this

theorem append_in {oa : OA} (hE : EnvE P E) (h : FRs φ lam perm S a w.heap) {x y : Operand} {t0 t1 elem d g ver q n k : Nat} {cs : List V} {es' : List (List V)} (hop : o.op = .call { callee := .builtin .append, args := #[x, y], argTypes := #[t0, t1] })
    (hd : o.dst = some d) (hs : (E.ti t0).sh = .slice elem k) (hg : S.hp[g]? = some (.vec k cs ver)) (hx : OV (mkC φ S.hp.length perm w.heap) w.heap lam S.box (.gs g ver q n) (a.eval x))
    {news : List Value} (hsrc : Src P k t1 (a.eval y) es'.length news w) (hnews : NewsR (mkC φ S.hp.length perm w.heap) k es' news) (hcell : es'.flatten.all cellOk = true) (hk0 : 0 < k) (hfit : (q + n + es'.length) * k ≤ cs.length)
    (hK : (Out.ok { tw := oa.take.map (fun t => (t, V.dead)) ++ [(d, .gs g ver q (n + es'.length))], hw := some (S.hp.set g (.vec k (setRange cs ((q + n) * k) es'.flatten) ver)) }).wp K) : Does P o a w (R0 φ perm S a w o K) := by
  obtain ⟨ht, inf, hinf, hk⟩ : P.underlying t0 = some (.slice elem) ∧ ∃ inf, P.info? elem = some inf ∧ inf.size = k := by have := (TIok.sh' hE.ok hs (by simp)).sh; rw [hs] at this; exact this
  subst hk
  obtain ⟨r, off, cap, arr, el, N, v1, v2, hp, v4, v5, v6, v7, v8⟩ := h.hr.vecs g _ cs ver hg
  obtain ⟨r2, off2, cap2, k2, w2, hcap, e⟩ := VR.gsI hx
  have v1' : φ.hd g ver = some (r, off, cap, inf.size) := v1
  have w2' : φ.hd g ver = some (r2, off2, cap2, k2) := w2
  rw [v1'] at w2'; cases w2'
  have hN : q + n + es'.length ≤ N := by rw [v6] at hfit; exact Nat.le_of_mul_le_mul_right hfit hk0
  have hNk : cs.length ≤ cap * inf.size := by rw [v6]; exact Nat.mul_le_mul_right _ v7
  have har := hnews.ar hcell
  have hfl := flatten_len es' hnews.hk
  rw [Nat.add_mul] at hfit
  have hrun := run_append_row (t := t0) (ty := o.type) (off := off + q * inf.size) (sLen := n) (sCap := cap - q) ht hinf v4 hsrc (by omega) (by
    rw [hnews.len]; rw [Nat.add_mul q n] at hfit; omega)
  rw [show off + q * inf.size + n * inf.size = off + (q + n) * inf.size by rw [Nat.add_mul]; omega] at hrun
  obtain ⟨hrow', hsz⟩ := v8.store (q := (q + n) * inf.size) har (by omega) (by omega)
  simp only at hrow' hsz
  have hheap := setRow_heap' (cs := (arr.toList.take (off + (q + n) * inf.size) ++ news ++ arr.toList.drop (off + (q + n) * inf.size + news.length)).toArray) v4
  have hlt := lt_of_some v4
  have ho' : ∀ q', q' ≠ r → (w.heap.setIfInBounds r (.cells (arr.toList.take (off + (q + n) * inf.size) ++ news ++ arr.toList.drop (off + (q + n) * inf.size + news.length)).toArray el (0, 0)))[q']? = w.heap[q']? ∧ perm q' = perm q' := fun q' hq' => ⟨by rw [set_get hlt, if_neg (Ne.symm hq')], rfl⟩
  have hE' : Evo w.heap perm (w.heap.setIfInBounds r (.cells (arr.toList.take (off + (q + n) * inf.size) ++ news ++ arr.toList.drop (off + (q + n) * inf.size + news.length)).toArray el (0, 0))) perm :=
    Evo.at (by simp) ho' hp (by simp) (fun o v hi _ => by rw [imm_zero hp] at hi; cases hi) (by
      rw [blockSize_cells v4, blockSize_cells (M := w.heap.setIfInBounds _ _) (by rw [set_get hlt, if_pos rfl]), hsz]; exact Nat.le_refl _)
  obtain ⟨hw1, hw2⟩ := h.wrVec (cs' := setRange cs ((q + n) * inf.size) es'.flatten) (N' := N) hg v1' v4 hsz.symm (by rw [setRange_len]; exact v6) v7 (hrow'.mono (hE'.le (fun _ _ => rfl) (Nat.le_refl _)))
  refine .inl ⟨_, _, app_run hop (by rw [e]; exact hrun), _, hK, ?_⟩
  rw [hd]
  refine ⟨⟨φ, lam, perm, ?_, ?_, fun _ _ => rfl, fun _ _ _ h => h⟩, by simp [St.apply], rfl, rfl, rfl⟩
  · rw [hheap]
    refine result_tw hw1 oa.take d (v := .gs g ver q (n + es'.length)) ?_ (fun _ _ _ => by unfold Rt; trivial)
    exact VR.gs v1' (by omega)
  · rw [hheap]; exact hw2

theorem append_end {oa : OA} (hE : EnvE P E) (h : FRs φ lam perm S a w.heap) {x y : Operand} {t0 t1 elem d g ver n k : Nat} {cs : List V} {es' : List (List V)} (hop : o.op = .call { callee := .builtin .append, args := #[x, y], argTypes := #[t0, t1] })
    (hd : o.dst = some d) (hs : (E.ti t0).sh = .slice elem k) (hok : (E.ti elem).ok = true) (hb0 : (E.ti elem).bytes ≠ 0) (hg : S.hp[g]? = some (.vec k cs ver)) (hx : OV (mkC φ S.hp.length perm w.heap) w.heap lam S.box (.gs g ver 0 n) (a.eval x))
    {news : List Value} (hsrc : Src P k t1 (a.eval y) es'.length news w) (hnews : NewsR (mkC φ S.hp.length perm w.heap) k es' news) (hcell : es'.flatten.all cellOk = true) (hk0 : 0 < k) (hfull : n * k = cs.length)
    (hbig : (n + es'.length) * (E.ti elem).bytes ≤ 17592186044416)
    (hK : (Out.ok { tw := oa.take.map (fun t => (t, V.dead)) ++ [(d, .gs g (ver + 1) 0 (n + es'.length))], hw := some (S.hp.set g (.vec k (cs ++ es'.flatten) (ver + 1))) }).wp K) : Does P o a w (R0 φ perm S a w o K) := by
  obtain ⟨ht, inf, hinf, hk⟩ : P.underlying t0 = some (.slice elem) ∧ ∃ inf, P.info? elem = some inf ∧ inf.size = k := by have := (TIok.sh' hE.ok hs (by simp)).sh; rw [hs] at this; exact this
  obtain ⟨inf', hinf', hsz0, hby, z, hz, hzr, hzl, -⟩ := (hE.ok elem hok).info
  have hii : inf = inf' := Option.some.inj (hinf.symm.trans hinf')
  subst hii
  subst hk
  obtain ⟨r, off, cap, olds, e0, holds, v0, hcap0, hc0⟩ := vec_news h hg hx (by rw [Nat.zero_add]; omega)
  obtain ⟨r1, off1, cap1, arr, el, N, v1, v2, hp, v4, v5, v6, v7, v8⟩ := h.hr.vecs g _ cs ver hg
  have v1' : φ.hd g ver = some (r1, off1, cap1, inf.size) := v1
  rw [v1'] at v0; cases v0
  have hNn : N = n := by rw [v6] at hfull; exact (Nat.eq_of_mul_eq_mul_right hk0 hfull).symm
  subst hNn
  have e : a.eval x = .slice (some ⟨r, off, none⟩) N cap := by rw [e0]; simp
  have har := hnews.ar hcell
  have hfl := flatten_len es' hnews.hk
  have hcl : (cs ++ es'.flatten).length = (N + es'.length) * inf.size := by rw [List.length_append, hfl, v6, Nat.add_mul]
  have hsmall : N + es'.length ≤ 17592186044416 := by
    have : (N + es'.length) * 1 ≤ (N + es'.length) * (E.ti elem).bytes := Nat.mul_le_mul_left _ (by omega)
    omega
  by_cases hroom : N + es'.length ≤ cap
  · have hroomk : (N + es'.length) * inf.size ≤ cap * inf.size := Nat.mul_le_mul_right _ hroom
    rw [Nat.add_mul] at hroomk
    have hrun := run_append_row (t := t0) (ty := o.type) (off := off) (sLen := N) (sCap := cap) ht hinf v4 hsrc hroom (by rw [hnews.len]; omega)
    rw [← v6] at hrun
    have hsz : (arr.toList.take (off + cs.length) ++ news ++ arr.toList.drop (off + cs.length + news.length)).toArray.size = arr.size := by
      have := hnews.len
      have hal : arr.toList.length = arr.size := by simp
      simp; omega
    have hrow' := v8.app har (by rw [hnews.len]; omega)
    have hheap := setRow_heap' (cs := (arr.toList.take (off + cs.length) ++ news ++ arr.toList.drop (off + cs.length + news.length)).toArray) v4
    have hlt := lt_of_some v4
    have ho' : ∀ q', q' ≠ r → (w.heap.setIfInBounds r (.cells (arr.toList.take (off + cs.length) ++ news ++ arr.toList.drop (off + cs.length + news.length)).toArray el (0, 0)))[q']? = w.heap[q']? ∧ perm q' = perm q' := fun q' hq' => ⟨by rw [set_get hlt, if_neg (Ne.symm hq')], rfl⟩
    have hE' : Evo w.heap perm (w.heap.setIfInBounds r (.cells (arr.toList.take (off + cs.length) ++ news ++ arr.toList.drop (off + cs.length + news.length)).toArray el (0, 0))) perm :=
      Evo.at (by simp) ho' hp (by simp) (fun o v hi _ => by rw [imm_zero hp] at hi; cases hi) (by
        rw [blockSize_cells v4, blockSize_cells (M := w.heap.setIfInBounds _ _) (by rw [set_get hlt, if_pos rfl]), hsz]; exact Nat.le_refl _)
    have hrowM := hrow'.mono (hE'.le (φ := φ) (φ' := φ) (nb := S.hp.length) (nb' := S.hp.length) (fun _ _ => rfl) (Nat.le_refl _))
    obtain ⟨hw1, hw2⟩ := h.wrVec (cs' := cs ++ es'.flatten) (N' := N + es'.length) hg v1' v4 hsz.symm hcl hroom hrowM
    have hgl := hlt_of_some hg
    obtain ⟨hr1, hr2⟩ := hw1.rebase (g := g) (k := inf.size) (ver := ver) (r := r) (off := off) (cap := cap) (cs := cs ++ es'.flatten) (cs' := cs ++ es'.flatten) (by rw [hset_get hgl, if_pos rfl]) hp (by rw [set_get hlt, if_pos rfl]) (by rw [hsz]; exact v5) hcl hroom (by simpa using hrowM)
    refine .inl ⟨_, _, app_run hop (by rw [e]; exact hrun), _, hK, ?_⟩
    rw [hd]
    refine ⟨⟨φ.setHd g (ver + 1) (r, off, cap, inf.size), lam, perm, ?_, ?_, fun _ _ => rfl, hr2⟩, by simp [St.apply], rfl, rfl, rfl⟩
    · rw [hheap]
      have := result_tw hr1 oa.take d (v := .gs g (ver + 1) 0 (N + es'.length)) (x := .slice (some ⟨r, off, none⟩) (N + es'.length) cap) (by
        have := VR.gs (C := mkC (φ.setHd g (ver + 1) (r, off, cap, inf.size)) ((S.hp.set g (.vec inf.size (cs ++ es'.flatten) ver)).set g (.vec inf.size (cs ++ es'.flatten) (ver + 1))).length perm (w.heap.setIfInBounds r (.cells (arr.toList.take (off + cs.length) ++ news ++ arr.toList.drop (off + cs.length + news.length)).toArray el (0, 0)))) (g := g) (ver := ver + 1) (o := 0) (n := N + es'.length)
          (Phi.setHd_same φ _ _ _) (by omega)
        simpa [OV] using this) (fun _ _ _ => by unfold Rt; trivial)
      simp only [List.set_set] at this
      exact this
    · rw [hheap]; exact hw2
  · have hgr : cap < N + es'.length := by omega
    have hfirst : (Builtin.firstCells inf.size N (.slice (some ⟨r, off, none⟩) N cap)).run P w.drew = .ok olds.toArray w.drew := by
      have hol := holds.len; rw [rowsOf_len'] at hol
      exact run_firstCells_some w.drew _ _ _ _ _ olds hol (fun j u hj => by rw [addA, cell?_eq, drew_heap]; have := hc0 j u hj; simpa using this)
    have hrun := run_append_grow_src w t0 t1 o.type elem inf z ht hinf hz (some ⟨r, off, none⟩) N cap olds hfirst (a.eval y) es'.length news hsrc hgr (by omega) (growslice_fits hgr (by rw [hby]; omega))
    have hcge := grownCap_ge w (N + es'.length) cap elem
    generalize grownCap w (N + es'.length) cap elem = ncap at hrun hcge
    have hzsz : z.cells.size = inf.size := by rw [hzr.len, hzl, hsz0]
    generalize hrow : (olds ++ news).toArray ++ Builtin.zeroCells z.cells (ncap - (N + es'.length)) = row at hrun
    have all := holds.append hnews
    have hol : (olds ++ news).length = (N + es'.length) * inf.size := by rw [all.len]; simp [rowsOf_len']
    have hrs := grown_row (elem := elem) rfl hzsz hol hcge hrow
    have hp2 := h.pushed (.cells row elem) (perm' := ownP perm w.heap.size (.hb g) 0) (fun r hr => by simp [ownP, Nat.ne_of_lt hr]) (fun r hr => by
      simp only [ownP]; rw [if_neg (by omega)]; exact h.fresh r (by omega))
    have hE2 : Evo w.heap perm (w.heap.push (.cells row elem)) (ownP perm w.heap.size (.hb g) 0) := Evo.push _ (fun r hr => by simp [ownP, Nat.ne_of_lt hr])
    have hCC : (mkC φ S.hp.length perm w.heap).le (mkC φ S.hp.length (ownP perm w.heap.size (.hb g) 0) (w.heap.push (.cells row elem))) := hE2.le (fun _ _ => rfl) (Nat.le_refl _)
    have holl := holds.len; rw [rowsOf_len'] at holl
    have hcells : VecR (mkC φ S.hp.length (ownP perm w.heap.size (.hb g) 0) (w.heap.push (.cells row elem))) (cs ++ es'.flatten) row 0 := ⟨fun i v hi => by
      rcases Nat.lt_or_ge i cs.length with hlt | hge
      · rw [List.getElem?_append_left hlt] at hi
        obtain ⟨h1, x, h2, h3, h4⟩ := v8.each i v hi
        refine ⟨h1, x, ?_, h3.mono hCC, h4⟩
        have hil : i < olds.length := by omega
        have ho := hc0 i olds[i] (by simp [hil])
        rw [cellAt_cells v4] at ho
        simp only [Nat.zero_mul, Nat.add_zero] at ho
        rw [ho] at h2
        rw [Nat.zero_add, ← hrow, Array.getElem?_append_left (by simp; omega)]
        simp only [List.getElem?_toArray, List.getElem?_append_left hil]
        rw [← h2]; simp [hil]
      · rw [List.getElem?_append_right hge] at hi
        obtain ⟨h1, x, h2, h3, h4⟩ := har.each _ v hi
        refine ⟨h1, x, ?_, h3.mono hCC, h4⟩
        have h2' : news[i - cs.length]? = some x := by simpa using h2
        have hil : i - cs.length < news.length := by
          rcases Nat.lt_or_ge (i - cs.length) news.length with h' | h'
          · exact h'
          · rw [List.getElem?_eq_none h'] at h2'; cases h2'
        rw [Nat.zero_add, ← hrow, Array.getElem?_append_left (by simp; omega)]
        simp only [List.getElem?_toArray]
        rw [List.getElem?_append_right (by omega), show i - olds.length = i - cs.length by omega]; exact h2'⟩
    obtain ⟨hr1, hr2⟩ := hp2.rebase (g := g) (k := inf.size) (ver := ver) (r := w.heap.size) (off := 0) (cap := ncap) (cs := cs) (cs' := cs ++ es'.flatten) hg (by simp [ownP]) push_last (by omega) hcl hcge hcells
    refine .inl ⟨_, _, app_run hop (by rw [e]; exact hrun), _, hK, ?_⟩
    rw [hd]
    refine ⟨⟨φ.setHd g (ver + 1) (w.heap.size, 0, ncap, inf.size), lam, _, result_tw hr1 oa.take d (v := .gs g (ver + 1) 0 (N + es'.length)) ?_ (fun _ _ _ => by unfold Rt; trivial), hE2, fun _ _ => rfl, hr2⟩, by simp [St.apply], rfl, rfl, rfl⟩
    have := VR.gs (C := mkC (φ.setHd g (ver + 1) (w.heap.size, 0, ncap, inf.size)) (S.hp.set g (.vec inf.size (cs ++ es'.flatten) (ver + 1))).length (ownP perm w.heap.size (.hb g) 0) (w.heap.push (.cells row elem))) (g := g) (ver := ver + 1) (o := 0) (n := N + es'.length)
      (Phi.setHd_same φ _ _ _) (by omega)
    simpa [OV] using this
end
end Go.Hx

/-
  Hx: append, joined.
-/
namespace Go.Hx
open Go

section
variable {P : Program} {E : Env} [Glob] {φ : Phi} {lam : Nat → Nat} {perm : Perm} {S : St} {a : Act} {w : World} {o : Oper} {K : Upd → Prop}

theorem s_append {oa : OA} (hE : EnvE P E) (h : FRs φ lam perm S a w.heap) {args : Array Operand} {ats : Array Nat} {t0 : Nat} (hop : o.op = .call { callee := .builtin .append, args := args, argTypes := ats })
    (h0 : ats[0]? = some t0) (hK : (appOut E o.dst oa.take oa.mode t0 ats.toList (args.toList.map (evO S.tm oa.take (E.kOf t0))) S.hp).wp K) : Does P o a w (R0 φ perm S a w o K) := by
  unfold appOut at hK
  split at hK
  · rename_i d elem kk t0' t1 vx vy hd hs hats hargs
    have hatsE : ats = #[t0, t1] := by
      obtain ⟨l⟩ := ats
      simp only at hats; subst hats
      simp at h0; subst h0; rfl
    subst hatsE
    obtain ⟨x, y, rfl, hvx, hvy⟩ := args_two hargs
    obtain ⟨hx, hrx⟩ := h.ev oa.take (E.kOf t0) x
    obtain ⟨hy, -⟩ := h.ev oa.take (E.kOf t0) y
    rw [← hvx] at hx hrx
    rw [← hvy] at hy
    split at hK
    · rename_i hc
      obtain ⟨hok, hb⟩ := hc
      split at hK
      · exact hK.elim
      · rename_i es' hsv
        obtain ⟨news, hsrc, hn⟩ := srcV_src hE h hsv hy
        split at hK
        · rename_i k es r
          split at hK
          · rename_i hkk
            subst hkk
            have nil3 : r = 3 → es = [] ∧ a.eval x = .slice none 0 0 := fun h3 => by
              rcases hx.sl with h1 | ⟨b, off, cap, e, hcap, hke, vals, g1, g2, g3, g4, g5⟩
              · exact h1
              · exact absurd h3 g5
            split at hK
            · split at hK
              · rename_i hc
                obtain ⟨h3, hne, hcell⟩ := hc
                exact append_new hE h hop hd hs hok hb (nil3 h3).2 hsrc hn hne hcell hK.1 hK.2
              · exact hK.elim
            · split at hK
              · obtain ⟨rfl, hnil⟩ := nil3 rfl
                split at hK
                · have hn0 : news = [] := List.eq_nil_of_length_eq_zero (by rw [hn.len]; simp)
                  subst hn0
                  obtain ⟨ht, inf, hinf, hk⟩ : P.underlying t0 = some (.slice elem) ∧ ∃ inf, P.info? elem = some inf ∧ inf.size = k := by have := (TIok.sh' hE.ok hs (by simp)).sh; rw [hs] at this; exact this
                  subst hk
                  refine does_val h (take := oa.take) (v := .sl inf.size [] 3) (x := .slice none 0 0) (app_run hop ?_) VR.slnil.ov (.inr fun _ _ _ => by unfold Rt; trivial) (by rw [hd]; exact hK)
                  rw [hnil]
                  exact run_append_none ht hinf hsrc (Nat.le_refl _)
                · rename_i e es'
                  have hK1 := hK.1
                  refine append_core (es := []) (es' := e :: es') (r := 1) hE h hop hd hs hok hb (by omega) (by rw [hnil]; exact VR.slnil.ov) (.inr fun _ _ _ => by rw [hnil]; unfold Rt; trivial) hsrc hn (by simpa using hK1) (by simpa using hK.2)
              · split at hK
                · rename_i hr
                  exact append_core hE h hop hd hs hok hb hr hx hrx hsrc hn hK.1 hK.2
                · exact hK.elim
          · exact hK.elim
        · rename_i g ver q n
          split at hK
          · rename_i k cs ver' hg
            split at hK
            · rename_i hc
              obtain ⟨rfl, rfl, hcell, hk0⟩ := hc
              split at hK
              · rename_i hfit
                exact append_in hE h hop hd hs hg hx hsrc hn hcell hk0 hfit hK
              · split at hK
                · rename_i hc
                  obtain ⟨rfl, hfull⟩ := hc
                  exact append_end hE h hop hd hs hok hb hg hx hsrc hn hcell hk0 hfull hK.1 hK.2
                · exact hK.elim
            · exact hK.elim
          · exact hK.elim
        · exact hK.elim
    · exact hK.elim
  · exact hK.elim
end
end Go.Hx

/-
  Hx, part 19: new slices, new maps.
-/
namespace Go.Hx
open Go

section
variable {P : Program} {E : Env} [Glob] {φ : Phi} {lam : Nat → Nat} {perm : Perm} {S : St} {a : Act} {w : World} {o : Oper} {K : Upd → Prop}

theorem result_tw' {φ' : Phi} {lam' : Nat → Nat} {S1 : St} {M1 : Mem} (h : FRs φ' lam' perm S1 a M1) (take : List Nat) (d : Nat) {v : V} {x : Value} (hv : OV (mkC φ' S1.hp.length perm M1) M1 lam' S1.box v x) (hr : Rt perm M1 (.t d) v x) :
    FRs φ' lam' perm { S1 with tm := ((take.map fun t => (t, V.dead)) ++ [(d, v)]).foldl (fun tm p => tm.set p.1 p.2) S1.tm } (a.put (some d) x) M1 := by
  rw [dstw]
  exact (h.kills take).setT (TV.of hv hr)

theorem does_newSlice {oa : OA} {elem k n : Nat} {es : List (List V)} {arr : Array Value} (h : FRs φ lam perm S a w.heap) (har : AR (mkC φ S.hp.length perm w.heap) es.flatten arr) (hk : ∀ e ∈ es, e.length = k) (hn : es.length = n)
    (hrun : (execOp a.eval o).run P w = .ok (.value (.slice (some ⟨w.heap.size, 0, none⟩) n n)) (addB w (.cells arr elem)))
    (hK : (outSlice o.dst oa.take oa.mode S.box S.hp k n es).wp K) : Does P o a w (R0 φ perm S a w o K) := by
  subst hn
  have hfl := flatten_len es hk
  have hsz : arr.size = es.length * k := by rw [har.size, hfl]
  unfold outSlice at hK
  split at hK
  · exact hK.elim
  · rename_i d hd
    split at hK
    · -- it stays
      have hp := h.pushed (.cells arr elem) (perm' := perm) (fun _ _ => rfl) (fun r hr => h.fresh r (by omega))
      have hE : Evo w.heap perm (w.heap.push (.cells arr elem)) perm := Evo.push _ (fun _ _ => rfl)
      have hC : (mkC φ S.hp.length perm w.heap).le (mkC φ S.hp.length perm (w.heap.push (.cells arr elem))) := hE.le (fun _ _ => rfl) (Nat.le_refl _)
      have hMr : (w.heap.push (.cells arr elem))[w.heap.size]? = some (.cells arr elem (0, 0)) := push_last
      have hi : ∀ q, imm perm w.heap.size q = true := fun q => by unfold imm; rw [h.fresh _ (Nat.le_refl _)]
      refine .inl ⟨_, _, hrun, _, hK, ?_⟩
      rw [hd]
      refine ⟨⟨_, _, _, result_tw' hp oa.take d (v := .sl k es 1) ?_ ?_, hE, fun _ _ => rfl, fun _ _ _ h => h⟩, Nat.le_refl _, rfl, rfl, rfl⟩
      · refine VR.sl (fun i => (arr[i]?).getD undef) rfl (Nat.le_refl _) hk (fun i hi' => ?_) (fun i v hv => ?_) (fun v hv => ?_) (fun hh _ => by rw [hh]; rfl) (by omega)
        · have hlt : i < arr.size := by omega
          simp only [mkC, hi, if_true, cellAt_cells hMr, Nat.zero_add]
          simp [hlt]
        · obtain ⟨-, x, h2, h3, -⟩ := har.each i v hv
          rw [h2]; exact h3.mono hC
        · obtain ⟨i, hi'⟩ := List.mem_iff_getElem?.1 hv
          exact (har.each i v hi').1
      · unfold Rt; intro _ hh; exact absurd hh (Nat.lt_irrefl _)
    · have hp := h.pushed (.cells arr elem) (perm' := ownP perm w.heap.size (.hb S.hp.length) 0) (fun r hr => by simp [ownP, Nat.ne_of_lt hr]) (fun r hr => by
          simp only [ownP]; rw [if_neg (by omega)]; exact h.fresh r (by omega))
      have hE : Evo w.heap perm (w.heap.push (.cells arr elem)) (ownP perm w.heap.size (.hb S.hp.length) 0) := Evo.push _ (fun r hr => by simp [ownP, Nat.ne_of_lt hr])
      have hC : (mkC φ S.hp.length perm w.heap).le (mkC φ S.hp.length (ownP perm w.heap.size (.hb S.hp.length) 0) (w.heap.push (.cells arr elem))) := hE.le (fun _ _ => rfl) (Nat.le_refl _)
      obtain ⟨hadd, hle⟩ := hp.addVec (k := k) (off := 0) (cap := es.length) (N := es.length) (cs := es.flatten) (by simp [ownP]) push_last (by omega) hfl (Nat.le_refl _)
        ⟨fun i v hv => by
          obtain ⟨h1, y, h2, h3, h4⟩ := har.each i v hv
          exact ⟨h1, y, by rw [Nat.zero_add]; exact h2, h3.mono hC, h4⟩⟩
      refine .inl ⟨_, _, hrun, _, hK, ?_⟩
      rw [hd]
      refine ⟨⟨φ.setHd S.hp.length 0 (w.heap.size, 0, es.length, k), lam, _, result_tw hadd oa.take d (v := .gs S.hp.length 0 0 es.length) ?_ (fun _ _ _ => by unfold Rt; trivial), hE, fun _ _ => rfl, hle⟩, by simp [St.apply], rfl, rfl, rfl⟩
      have := VR.gs (C := mkC (φ.setHd S.hp.length 0 (w.heap.size, 0, es.length, k)) (S.hp ++ [HObj.vec k es.flatten 0]).length (ownP perm w.heap.size (.hb S.hp.length) 0) (w.heap.push (.cells arr elem))) (g := S.hp.length) (ver := 0) (o := 0) (n := es.length)
        (Phi.setHd_same φ _ _ _) (by omega)
      simpa [OV] using this
    · have hp := h.pushed (.cells arr elem) (perm' := ownP perm w.heap.size (.hb S.hp.length) 0) (fun r hr => by simp [ownP, Nat.ne_of_lt hr]) (fun r hr => by
          simp only [ownP]; rw [if_neg (by omega)]; exact h.fresh r (by omega))
      have hE : Evo w.heap perm (w.heap.push (.cells arr elem)) (ownP perm w.heap.size (.hb S.hp.length) 0) := Evo.push _ (fun r hr => by simp [ownP, Nat.ne_of_lt hr])
      have hC : (mkC φ S.hp.length perm w.heap).le (mkC φ S.hp.length (ownP perm w.heap.size (.hb S.hp.length) 0) (w.heap.push (.cells arr elem))) := hE.le (fun _ _ => rfl) (Nat.le_refl _)
      have hadd := hp.addHeap (r := w.heap.size) (cs := es.flatten) (arr := arr) (elem := elem) push_last (by simp [ownP]) (har.row hC)
      refine .inl ⟨_, _, hrun, _, hK, ?_⟩
      rw [hd]
      refine ⟨⟨_, _, _, result_tw hadd oa.take d (v := .msl S.hp.length 0 k es.length es.length) ?_ (fun _ _ _ => by unfold Rt; trivial), hE, fun b hb => by simp [Phi.upd, Nat.ne_of_lt hb], fun _ _ _ h => h⟩, by simp [St.apply], rfl, rfl, rfl⟩
      have := VR.msl (C := mkC (φ.upd S.hp.length w.heap.size) (S.hp ++ [HObj.cells es.flatten]).length (ownP perm w.heap.size (.hb S.hp.length) 0) (w.heap.push (.cells arr elem))) (b := S.hp.length) (o := 0) (k := k) (n := es.length) (c := es.length) (cap := es.length) (by simp [mkC]) (Nat.le_refl _) (Nat.le_refl _)
        (by simp only [mkC, Phi.upd_self]; rw [blockSize_cells push_last]; omega)
      simpa [mkC, OV] using this
    · split at hK
      · rename_i hn
        have hn : S.box d = none := by simpa using hn
        have hp := h.pushed (.cells arr elem) (perm' := ownP perm w.heap.size (.lb d) 0) (fun r hr => by simp [ownP, Nat.ne_of_lt hr]) (fun r hr => by
          simp only [ownP]; rw [if_neg (by omega)]; exact h.fresh r (by omega))
        have hE : Evo w.heap perm (w.heap.push (.cells arr elem)) (ownP perm w.heap.size (.lb d) 0) := Evo.push _ (fun r hr => by simp [ownP, Nat.ne_of_lt hr])
        have hC : (mkC φ S.hp.length perm w.heap).le (mkC φ S.hp.length (ownP perm w.heap.size (.lb d) 0) (w.heap.push (.cells arr elem))) := hE.le (fun _ _ => rfl) (Nat.le_refl _)
        have hadd := hp.addBox (r := w.heap.size) (s := d) (cs := es.flatten) (arr := arr) (elem := elem) hn push_last (by simp [ownP]) (har.row hC)
        refine .inl ⟨_, _, hrun, _, hK, ?_⟩
        rw [hd]
        refine ⟨⟨_, _, _, result_tw hadd oa.take d (v := .lmsl d 0 k es.length es.length) ⟨es.flatten, ?_, Nat.le_refl _, by rw [hfl]; omega, by simp⟩ (fun _ _ _ => by unfold Rt; trivial), hE, fun _ _ => rfl, fun _ _ _ h => h⟩, Nat.le_refl _, rfl, rfl, rfl⟩
        simp [St.box, look_setBx]
      · exact hK.elim
end
end Go.Hx

/-
  Hx, part 20: makeSlice, buildSlice, makeMap.
-/
namespace Go.Hx
open Go

section
variable {P : Program} {E : Env} [Glob] {φ : Phi} {lam : Nat → Nat} {perm : Perm} {S : St} {a : Act} {w : World} {o : Oper} {K : Upd → Prop}

omit [Glob] in
theorem replicate_flat (z : List V) : ∀ (n i : Nat), i < n * z.length → (List.replicate n z).flatten[i]? = z[i % z.length]?
  | 0, i, h => by simp at h
  | n + 1, i, h => by
    simp only [List.replicate_succ, List.flatten_cons]
    by_cases hi : i < z.length
    · rw [List.getElem?_append_left hi, Nat.mod_eq_of_lt hi]
    · rw [List.getElem?_append_right (by omega), replicate_flat z n _ (by rw [Nat.add_mul] at h; omega), Nat.mod_eq_sub_mod (a := i) (by omega)]

omit [Glob] in
theorem replicate_ar {C : Ctx} {zs : List V} {z : Value} (hz : ZeroR zs z) (n : Nat) : AR C (List.replicate n zs).flatten ((Array.range (n * zs.length)).map (z.cells[· % z.cells.size]!)) := by
  have hlen : (List.replicate n zs).flatten.length = n * zs.length := by simp
  refine ⟨by simp, fun i v hv => ?_⟩
  have hi : i < n * zs.length := by
    rw [← hlen]
    rcases Nat.lt_or_ge i (List.replicate n zs).flatten.length with h' | h'
    · exact h'
    · rw [List.getElem?_eq_none h'] at hv; cases hv
  rw [replicate_flat zs n i hi] at hv
  obtain ⟨h1, x, h2, h3, h4⟩ := hz.each _ v hv
  refine ⟨h1, x, ?_, h3 C, h4⟩
  rw [Array.getElem?_map]
  have : (Array.range (n * zs.length))[i]? = some i := by simp [hi]
  rw [this, Option.map_some, hz.len]
  rw [getElem!_def, h2]

omit [Glob] in
theorem newRow_run (elem : Nat) (cells : Array Value) (w : World) : (newRow elem cells).run P w = .ok ⟨w.heap.size, 0, none⟩ (addB w (.cells cells elem)) := by
  simp [newRow, newObj, Sem.run, addB]

omit [Glob] in
theorem wrap64 {n : Int} (h0 : 0 ≤ n) (h1 : n ≤ 1099511627776) : IntKind.i64.wrap n = n := by
  have : IntKind.i64.wrap n = (n + 2 ^ 63) % 2 ^ 64 - 2 ^ 63 := by
    simp only [IntKind.wrap, IntKind.signed, IntKind.bits]
    first | rfl | (simp; omega)
  rw [this]; omega

omit [Glob] in
theorem range0 (f : Nat → Value) : (Array.range 0).map f = #[] := Array.eq_empty_of_size_eq_zero (by simp)

omit [Glob] in
theorem getE' {α : Type} {l : List α} {i : Nat} {x : α} (h : l[i]? = some x) : i < l.length := by
  rcases Nat.lt_or_ge i l.length with h' | h'
  · exact h'
  · rw [List.getElem?_eq_none h'] at h; cases h

omit [Glob] in
theorem makeSlice_run {t elem N M : Nat} {inf : TypeInfo} {z : Value} {k1 k2 : IntKind} (ht : P.underlying t = some (.slice elem)) (hinf : P.info? elem = some inf) (hz : inf.zero = some z) (hNM : N ≤ M)
    (h1 : (M : Int) ≤ 1099511627776) (h2 : (M : Int) * inf.bytes ≤ 1099511627776) :
    (Instr.makeSlice t (.int k1 N) (.int k2 M)).run P w = .ok (.slice (some ⟨w.heap.size, 0, none⟩) N M) (addB w (.cells ((Array.range (M * inf.size)).map (z.cells[· % z.cells.size]!)) elem)) := by
  have hwM := wrap64 (n := (M : Int)) (by omega) h1
  have hwN := wrap64 (n := (N : Int)) (by omega) (by omega)
  have hbz : (inf.bytes : Int) * M ≤ 1099511627776 := by rw [Int.mul_comm]; exact h2
  have hc1 : ¬ (M : Int) < 0 := by omega
  have hc2 : ¬ (281474976710656 : Int) < (inf.bytes : Int) * M := by omega
  have hc3 : ¬ (N : Int) < 0 := by omega
  have hc4 : ¬ (M : Int) < (N : Int) := by omega
  have hc5 : ¬ M < N := by omega
  by_cases hn0 : M * inf.size = 0
  · simp [Instr.makeSlice, rU ht, asInt, asIntOf, typeInfo, sizeOf, hinf, hwM, hwN, hc1, hc2, hc3, hc4, hc5, hn0, newRow_run, Sem.run, program]
    simp only [range0]
  · simp [Instr.makeSlice, rU ht, asInt, asIntOf, typeInfo, sizeOf, hinf, hwM, hwN, hc1, hc2, hc3, hc4, hc5, hn0, newRow_run, Sem.run, program, zeroValue, hz]

theorem s_makeSlice {oa : OA} (hE : EnvE P E) (h : FRs φ lam perm S a w.heap) {t : Nat} {l c : Operand} (hop : o.op = .makeSlice t l c)
    (hK : (match (E.ti t).sh, (evO S.tm oa.take 0 l).int?, (evO S.tm oa.take 0 c).int? with
     | .slice elem k, some (_, n), some (_, m) =>
       if (E.ti elem).ok = true ∧ (E.ti elem).size = k then
         match oa.mode, o.dst with
         | 4, some d => .need (0 ≤ n ∧ n ≤ m ∧ m ≤ 1099511627776 ∧ m * (E.ti elem).bytes ≤ 1099511627776) inferInstance (.val (some d) oa.take (.sl k (List.replicate n.toNat (E.ti elem).zero) 2))
         | 5, some d => .need (0 ≤ n ∧ n ≤ m ∧ m ≤ 1099511627776 ∧ m * (E.ti elem).bytes ≤ 1099511627776) inferInstance (.ok { tw := oa.take.map (fun t => (t, V.dead)) ++ [(d, .gs S.hp.length 0 0 n.toNat)], hw := some (S.hp ++ [.vec k (List.replicate n.toNat (E.ti elem).zero).flatten 0]) })
         | _, _ => .need (0 ≤ n ∧ n = m ∧ n ≤ 1099511627776 ∧ n * (E.ti elem).bytes ≤ 1099511627776) inferInstance (outSlice o.dst oa.take oa.mode S.box S.hp k n.toNat (List.replicate n.toNat (E.ti elem).zero)) else .fail
     | _, _, _ => .fail : Out).wp K) : Does P o a w (R0 φ perm S a w o K) := by
  obtain ⟨hl, -⟩ := h.ev oa.take 0 l
  obtain ⟨hc, -⟩ := h.ev oa.take 0 c
  split at hK
  · rename_i elem k k1 n k2 m hs hln hcm
    split at hK
    · rename_i hcond
      obtain ⟨hok, rfl⟩ := hcond
      split at hK
      · rename_i d hmode hd
        obtain ⟨⟨h0, h1, h2, h3⟩, hK⟩ := hK
        obtain ⟨ht, -⟩ : P.underlying t = some (.slice elem) ∧ _ := by have := (TIok.sh' hE.ok hs (by simp)).sh; rw [hs] at this; exact this
        obtain ⟨inf, hinf, hsz, hby, z, hz, hzr, hzl, -⟩ := (hE.ok elem hok).info
        have el : a.eval l = .int k1 n := hl.int hln
        have ec : a.eval c = .int k2 m := hc.int hcm
        obtain ⟨N, rfl⟩ : ∃ N : Nat, n = N := ⟨n.toNat, by omega⟩
        obtain ⟨M, rfl⟩ : ∃ M : Nat, m = M := ⟨m.toNat, by omega⟩
        have hNM : N ≤ M := by omega
        have hrun := makeSlice_run (P := P) (w := w) (k1 := k1) (k2 := k2) ht hinf hz hNM h2 (by rw [hby]; exact h3)
        have hzs : (E.ti elem).zero.length = inf.size := by rw [hzl, hsz]
        have har : AR (mkC φ S.hp.length perm w.heap) (List.replicate M (E.ti elem).zero).flatten ((Array.range (M * inf.size)).map (z.cells[· % z.cells.size]!)) := by
          have := replicate_ar (C := mkC φ S.hp.length perm w.heap) hzr M
          rw [hzs] at this; exact this
        generalize hrow : (Array.range (M * inf.size)).map (z.cells[· % z.cells.size]!) = row at hrun har
        have hrs : row.size = M * inf.size := by rw [← hrow]; simp
        have hp := (h.kills oa.take).pushed (.cells row elem) (perm' := ownP perm w.heap.size (.sp (.t d)) (N * inf.size)) (fun r hr => by simp [ownP, Nat.ne_of_lt hr]) (fun r hr => by
            simp only [ownP]; rw [if_neg (by omega)]; exact h.fresh r (by omega))
        have hE2 : Evo w.heap perm (w.heap.push (.cells row elem)) (ownP perm w.heap.size (.sp (.t d)) (N * inf.size)) := Evo.push _ (fun r hr => by simp [ownP, Nat.ne_of_lt hr])
        have hMr : (w.heap.push (.cells row elem))[w.heap.size]? = some (.cells row elem (0, 0)) := push_last
        have hNk : N * inf.size ≤ M * inf.size := Nat.mul_le_mul_right _ hNM
        have hnews : NewsR (mkC φ S.hp.length perm w.heap) inf.size (List.replicate N (E.ti elem).zero) (row.toList.take (N * inf.size)) := by
          refine ⟨fun e he => by rw [List.eq_of_mem_replicate he, hzs], by rw [List.length_take, Array.length_toList, hrs, List.length_replicate]; exact Nat.min_eq_left hNk, fun i v hv => ?_⟩
          have hi : i < N * inf.size := by
            have := getE' hv
            simpa [hzs] using this
          have hv2 : (List.replicate M (E.ti elem).zero).flatten[i]? = some v := by
            rw [replicate_flat _ _ _ (by rw [hzs]; exact hi)] at hv
            rw [replicate_flat _ _ _ (by rw [hzs]; omega)]; exact hv
          obtain ⟨g1, x, g2, g3, -⟩ := har.each i v hv2
          exact ⟨g1, x, by rw [List.getElem?_take, if_pos hi]; simpa using g2, g3⟩
        have hval := sl_of (k := inf.size) (r := 2) (b := w.heap.size) (off := 0) (cap := M) (hE2.le (φ := φ) (φ' := φ) (nb := S.hp.length) (nb' := S.hp.length) (fun _ _ => rfl) (Nat.le_refl _)) hnews (by simpa using hNM) (fun _ h => by cases h) (by omega) (fun j u hj => by
          rw [List.getElem?_take] at hj
          split at hj
          · rename_i hjl
            exact ⟨by rw [cellAt_cells hMr, Nat.zero_add]; simpa using hj, by simp only [imm, ownP, if_true, decide_eq_true_eq]; omega⟩
          · cases hj)
        simp only [List.length_replicate] at hval
        have hres := (hp.setT (d := d) (v := .sl inf.size (List.replicate N (E.ti elem).zero) 2) (x := .slice (some ⟨w.heap.size, 0, none⟩) N M) ⟨hval, by
          unfold Rt
          intro _ _
          exact ⟨by simp [ownP], row, elem, hMr, by simp [hrs]⟩⟩)
        rw [← hsz] at hK
        refine .inl ⟨.slice (some ⟨w.heap.size, 0, none⟩) N M, addB w (.cells row elem), by simp [execOp, hop, el, ec, hrun], _, hK, ?_⟩
        rw [hd]
        refine ⟨⟨φ, lam, _, ?_, hE2, fun _ _ => rfl, fun _ _ _ h => h⟩, Nat.le_refl _, rfl, rfl, rfl⟩
        simp only [St.apply, List.foldl_append, List.foldl_cons, List.foldl_nil, Int.toNat_natCast]
        exact hres
      · rename_i d hmode hd
        obtain ⟨⟨h0, h1, h2, h3⟩, hK⟩ := hK
        obtain ⟨ht, -⟩ : P.underlying t = some (.slice elem) ∧ _ := by have := (TIok.sh' hE.ok hs (by simp)).sh; rw [hs] at this; exact this
        obtain ⟨inf, hinf, hsz, hby, z, hz, hzr, hzl, -⟩ := (hE.ok elem hok).info
        have el : a.eval l = .int k1 n := hl.int hln
        have ec : a.eval c = .int k2 m := hc.int hcm
        obtain ⟨N, rfl⟩ : ∃ N : Nat, n = N := ⟨n.toNat, by omega⟩
        obtain ⟨M, rfl⟩ : ∃ M : Nat, m = M := ⟨m.toNat, by omega⟩
        have hNM : N ≤ M := by omega
        have hrun := makeSlice_run (P := P) (w := w) (k1 := k1) (k2 := k2) ht hinf hz hNM h2 (by rw [hby]; exact h3)
        have hzs : (E.ti elem).zero.length = inf.size := by rw [hzl, hsz]
        have har : AR (mkC φ S.hp.length perm w.heap) (List.replicate M (E.ti elem).zero).flatten ((Array.range (M * inf.size)).map (z.cells[· % z.cells.size]!)) := by
          have := replicate_ar (C := mkC φ S.hp.length perm w.heap) hzr M
          rw [hzs] at this; exact this
        generalize hrow : (Array.range (M * inf.size)).map (z.cells[· % z.cells.size]!) = row at hrun har
        have hrs : row.size = M * inf.size := by rw [← hrow]; simp
        have hp := h.pushed (.cells row elem) (perm' := ownP perm w.heap.size (.hb S.hp.length) 0) (fun r hr => by simp [ownP, Nat.ne_of_lt hr]) (fun r hr => by
            simp only [ownP]; rw [if_neg (by omega)]; exact h.fresh r (by omega))
        have hE2 : Evo w.heap perm (w.heap.push (.cells row elem)) (ownP perm w.heap.size (.hb S.hp.length) 0) := Evo.push _ (fun r hr => by simp [ownP, Nat.ne_of_lt hr])
        have hC : (mkC φ S.hp.length perm w.heap).le (mkC φ S.hp.length (ownP perm w.heap.size (.hb S.hp.length) 0) (w.heap.push (.cells row elem))) := hE2.le (fun _ _ => rfl) (Nat.le_refl _)
        have hNk : N * inf.size ≤ M * inf.size := Nat.mul_le_mul_right _ hNM
        have hfl : (List.replicate N (E.ti elem).zero).flatten.length = N * inf.size := by simp [hzs]
        obtain ⟨hadd, hle⟩ := hp.addVec (k := inf.size) (off := 0) (cap := M) (N := N) (cs := (List.replicate N (E.ti elem).zero).flatten) (by simp [ownP]) push_last (by omega) hfl hNM
          ⟨fun i v hv => by
            have hi : i < N * inf.size := by rw [← hfl]; exact getE' hv
            have hv2 : (List.replicate M (E.ti elem).zero).flatten[i]? = some v := by
              rw [replicate_flat _ _ _ (by rw [hzs]; exact hi)] at hv
              rw [replicate_flat _ _ _ (by rw [hzs]; omega)]; exact hv
            obtain ⟨g1, y, g2, g3, g4⟩ := har.each i v hv2
            exact ⟨g1, y, by rw [Nat.zero_add]; exact g2, g3.mono hC, g4⟩⟩
        rw [← hsz] at hK
        refine .inl ⟨.slice (some ⟨w.heap.size, 0, none⟩) N M, addB w (.cells row elem), by simp [execOp, hop, el, ec, hrun], _, hK, ?_⟩
        rw [hd]
        refine ⟨⟨φ.setHd S.hp.length 0 (w.heap.size, 0, M, inf.size), lam, _, result_tw hadd oa.take d (v := .gs S.hp.length 0 0 N) ?_ (fun _ _ _ => by unfold Rt; trivial), hE2, fun _ _ => rfl, hle⟩, by simp [St.apply], rfl, rfl, rfl⟩
        have := VR.gs (C := mkC (φ.setHd S.hp.length 0 (w.heap.size, 0, M, inf.size)) (S.hp ++ [HObj.vec inf.size (List.replicate N (E.ti elem).zero).flatten 0]).length (ownP perm w.heap.size (.hb S.hp.length) 0) (w.heap.push (.cells row elem))) (g := S.hp.length) (ver := 0) (o := 0) (n := N)
          (Phi.setHd_same φ _ _ _) (by omega)
        simpa [OV] using this
      obtain ⟨⟨h0, rfl, h1, h2⟩, hK⟩ := hK
      obtain ⟨ht, -⟩ : P.underlying t = some (.slice elem) ∧ _ := by have := (TIok.sh' hE.ok hs (by simp)).sh; rw [hs] at this; exact this
      obtain ⟨inf, hinf, hsz, hby, z, hz, hzr, hzl, -⟩ := (hE.ok elem hok).info
      have el : a.eval l = .int k1 n := hl.int hln
      have ec : a.eval c = .int k2 n := hc.int hcm
      obtain ⟨N, rfl⟩ : ∃ N : Nat, n = N := ⟨n.toNat, by omega⟩
      have hw := wrap64 h0 h1
      have hbz : ((E.ti elem).bytes : Int) * N ≤ 1099511627776 := by rw [Int.mul_comm]; exact h2
      have hb0 : 0 ≤ ((E.ti elem).bytes : Int) * N := Int.mul_nonneg (Int.natCast_nonneg _) (Int.natCast_nonneg _)
      have hbn : N * (E.ti elem).bytes ≤ 1099511627776 := by
        have : ((N * (E.ti elem).bytes : Nat) : Int) ≤ ((1099511627776 : Nat) : Int) := by rw [Int.natCast_mul]; exact h2
        exact Int.ofNat_le.1 this
      refine does_newSlice (elem := elem) (arr := (Array.range (N * (E.ti elem).zero.length)).map (z.cells[· % z.cells.size]!)) h (by simpa using replicate_ar hzr N) (fun e he => ?_) (by simp) ?_ hK
      · rw [List.eq_of_mem_replicate he, hzl]
      · have hmk : (Instr.makeSlice t (a.eval l) (a.eval c)).run P w = .ok (.slice (some ⟨w.heap.size, 0, none⟩) N N) (addB w (.cells ((Array.range (N * (E.ti elem).zero.length)).map (z.cells[· % z.cells.size]!)) elem)) := by
          have hask : (askRoom (N * (E.ti elem).bytes)).run P w = .ok () w := by
            unfold askRoom
            rw [if_neg (by simp only [roomBytes]; omega)]; simp
          have hc1 : ¬ (N : Int) < 0 := by omega
          have hc2 : ¬ (281474976710656 : Int) < ((E.ti elem).bytes : Int) * N := by omega
          rw [← hsz] at hzl
          by_cases hn0 : N * inf.size = 0
          · rw [hzl]
            simp [Instr.makeSlice, rU ht, el, ec, asInt, asIntOf, typeInfo, sizeOf, hinf, hw, hby, hc1, hc2, hn0, newRow_run, Sem.run, program]
            simp only [range0]
          · rw [hzl]
            simp [Instr.makeSlice, rU ht, el, ec, asInt, asIntOf, typeInfo, sizeOf, hinf, hw, hby, hc1, hc2, hn0, newRow_run, Sem.run, program, zeroValue, hz]
        simp [execOp, hop, hmk]
    · exact hK.elim
  · exact hK.elim

omit [Glob] in
theorem rowsOf_len (k : Nat) : ∀ (n : Nat) (cs : List V), (rowsOf k n cs).length = n
  | 0, _ => rfl
  | n + 1, cs => by simp [rowsOf, rowsOf_len k n]

omit [Glob] in
theorem rowsOf_each (k : Nat) : ∀ (n : Nat) (cs : List V), cs.length = n * k → ∀ e ∈ rowsOf k n cs, e.length = k
  | 0, _, _, e, he => by simp [rowsOf] at he
  | n + 1, cs, h, e, he => by
    rw [Nat.add_mul] at h
    simp only [rowsOf, List.mem_cons] at he
    rcases he with rfl | he
    · simp; omega
    · exact rowsOf_each k n _ (by simp; omega) e he

omit [Glob] in
theorem rowsOf_flat (k : Nat) : ∀ (n : Nat) (cs : List V), cs.length = n * k → (rowsOf k n cs).flatten = cs
  | 0, cs, h => by simp [rowsOf]; exact List.eq_nil_of_length_eq_zero (by simpa using h)
  | n + 1, cs, h => by
    rw [Nat.add_mul] at h
    simp only [rowsOf, List.flatten_cons, rowsOf_flat k n _ (show (cs.drop k).length = n * k by simp; omega), List.take_append_drop]

omit [Glob] in
theorem fillV_len (place : Nat → Option (Nat × Nat)) : ∀ (pv : List (Nat × V)) (cs cs' : List V), fillV place cs pv = some cs' → cs'.length = cs.length
  | [], cs, cs', h => by cases h; rfl
  | p :: pv, cs, cs', h => by
    obtain ⟨i, v⟩ := p
    simp only [fillV] at h
    split at h
    · cases h
    · split at h
      · rw [fillV_len place pv _ _ h, setRange_len]
      · cases h

theorem s_buildSlice {oa : OA} (hE : EnvE P E) (h : FRs φ lam perm S a w.heap) {t n : Nat} {parts : Array (Nat × Operand)} (hop : o.op = .buildSlice t n parts)
    (hK : (match (E.ti t).sh with
    | .slice elem k =>
      match fillV (placeA k) (replCells n (E.ti elem).zero) (partsV (evO S.tm oa.take) (fun _ => E.kOf elem) parts.toList) with
      | some cs => if n * k ≤ 1048576 ∧ (E.ti elem).ok = true then outSlice o.dst oa.take oa.mode S.box S.hp k n (rowsOf k n cs) else .fail
      | none => .fail
    | _ => .fail : Out).wp K) : Does P o a w (R0 φ perm S a w o K) := by
  split at hK
  · rename_i elem k hs
    split at hK
    · rename_i cs hf
      split at hK
      · rename_i hc
        obtain ⟨hsmall, hok⟩ := hc
        obtain ⟨ht, inf0, hinf0, hk0⟩ : P.underlying t = some (.slice elem) ∧ ∃ inf, P.info? elem = some inf ∧ inf.size = k := by have := (TIok.sh' hE.ok hs (by simp)).sh; rw [hs] at this; exact this
        obtain ⟨inf, hinf, hsz, hby, z, hz, hzr, hzl, -⟩ := (hE.ok elem hok).info
        have hii : inf = inf0 := Option.some.inj (hinf.symm.trans hinf0)
        subst hii
        subst hk0
        have hzl' : (E.ti elem).zero.length = inf.size := by rw [hzl, hsz]
        obtain ⟨arr', h1, h2⟩ := fill_sound (C := mkC φ S.hp.length perm w.heap) (place := placeA inf.size) _ (parts.map fun (i, x) => (i, a.eval x)).toList _ cs _ (replicate_ar hzr n) (by simp [partsV]) (parts_ok h oa.take (fun _ => E.kOf elem) parts) hf
        have hcs : cs.length = n * inf.size := by
          have e1 := fillV_len _ _ _ _ hf
          rw [e1]; simp [replCells, hzl']
        refine does_newSlice (elem := elem) (arr := arr') h (by rw [rowsOf_flat _ _ _ hcs]; exact h2) (rowsOf_each _ _ _ hcs) (rowsOf_len _ _ _) ?_ hK
        have hmk : (Instr.buildSlice t n (parts.map fun (i, x) => (i, a.eval x))).run P w = .ok (.slice (some ⟨w.heap.size, 0, none⟩) n n) (addB w (.cells arr' elem)) := by
          have h1' : Instr.fill (fun i => some (i * inf.size, inf.size)) ((Array.range (n * inf.size)).map (z.cells[· % z.cells.size]!)) (parts.map fun (i, x) => (i, a.eval x)).toList = some arr' := by rw [← hzl']; rw [← hzl'] at h1; exact h1
          have hlim : ¬ 16777216 < n * inf.size := by omega
          by_cases hn0 : n * inf.size = 0
          · have e0 : ∀ f : Nat → Value, (Array.range (n * inf.size)).map f = #[] := fun f => by rw [hn0, range0]
            rw [e0] at h1'
            simp only [Instr.buildSlice, Sem.run_bind, rU ht, rS hinf, Result.andThen_ok, hn0]
            rw [if_neg (by omega)]
            simp only [Sem.run_bind, Sem.run_pure, Result.andThen_ok, if_true, range0, h1', newRow_run]
          · simp only [Instr.buildSlice, Sem.run_bind, rU ht, rS hinf, Result.andThen_ok, hn0, if_false]
            rw [if_neg (by omega)]
            simp only [Sem.run_bind, Sem.run_pure, Result.andThen_ok, rZ hinf hz, h1', newRow_run]
        simp [execOp, hop, hmk]
      · exact hK.elim
    · exact hK.elim
  · exact hK.elim

theorem s_makeMap {oa : OA} (h : FRs φ lam perm S a w.heap) {t ar : Nat} (hop : o.op = .makeMap t none)
    (hK : (match o.dst with
     | some d => .ok { tw := oa.take.map (fun t => (t, V.dead)) ++ [(d, .map S.hp.length)], hw := some (S.hp ++ [.map ar []]) }
     | none => .fail : Out).wp K) : Does P o a w (R0 φ perm S a w o K) := by
  split at hK
  · rename_i d hd
    have hrun : (execOp a.eval o).run P w = .ok (.value (.map (some w.heap.size))) (addB w (.map #[] 0)) := by
      simp [execOp, hop, Instr.makeMap, newObj, Sem.run, addB]
    have hp := h.pushed (.map #[] 0) (perm' := ownP perm w.heap.size (.hb S.hp.length) 0) (fun r hr => by simp [ownP, Nat.ne_of_lt hr]) (fun r hr => by
          simp only [ownP]; rw [if_neg (by omega)]; exact h.fresh r (by omega))
    have hE : Evo w.heap perm (w.heap.push (.map #[] 0)) (ownP perm w.heap.size (.hb S.hp.length) 0) := Evo.push _ (fun r hr => by simp [ownP, Nat.ne_of_lt hr])
    have hadd := hp.addMap (r := w.heap.size) (ar := ar) (es := []) (ents := #[]) (clock := 0) push_last (by simp [ownP]) ⟨rfl, fun i k v hi => by simp at hi, fun i j e e' hi => by simp at hi⟩
    refine .inl ⟨_, _, hrun, _, hK, ?_⟩
    rw [hd]
    refine ⟨⟨_, _, _, result_tw hadd oa.take d (v := .map S.hp.length) ?_ (fun _ _ _ => by unfold Rt; trivial), hE, fun b hb => by simp [Phi.upd, Nat.ne_of_lt hb], fun _ _ _ h => h⟩, by simp [St.apply], rfl, rfl, rfl⟩
    have := VR.map (C := mkC (φ.upd S.hp.length w.heap.size) (S.hp ++ [HObj.map ar []]).length (ownP perm w.heap.size (.hb S.hp.length) 0) (w.heap.push (.map #[] 0))) (m := S.hp.length) (by simp [mkC])
    simpa [mkC, OV] using this
  · exact hK.elim
end
end Go.Hx

/-
  Hx, part 21: maps, written.
-/
namespace Go.Hx
open Go

theorem eqInts_eq : ∀ (cs ds : List V), (cs.all fun v => match v with | .raw (.int .i64 _) => true | _ => false) = true → (ds.all fun v => match v with | .raw (.int .i64 _) => true | _ => false) = true → eqCells cs ds = some true → cs = ds
  | [], [], _, _, _ => rfl
  | [], d :: ds, _, _, h => by simp [eqCells] at h
  | c :: cs, [], _, _, h => by cases c <;> simp [eqCells] at h
  | c :: cs, d :: ds, hc, hd, h => by
    simp only [List.all_cons, Bool.and_eq_true] at hc hd
    obtain ⟨hc1, hc2⟩ := hc
    obtain ⟨hd1, hd2⟩ := hd
    split at hc1
    · split at hd1
      · rename_i n m
        simp only [eqCells, decide_true, if_true, Option.map_eq_some_iff] at h
        obtain ⟨b, h1, h2⟩ := h
        simp only [Bool.and_eq_true, beq_iff_eq] at h2
        obtain ⟨rfl, rfl⟩ := h2
        rw [eqInts_eq cs ds hc2 hd2 h1]
      · cases hd1
    · cases hc1

theorem keyEq_eq {ar : Nat} {k k' : V} (hk : keyOk ar k = true) (hk' : keyOk ar k' = true) (h : keyEq k k' = true) : k = k' := by
  unfold keyEq at h
  split at h
  · rename_i c hc
    subst h
    unfold keyOk at hk hk'
    split at hk
    · split at hk'
      · have := eqInts_eq _ _ (by simp [V.cells]) (by simp [V.cells]) hc
        simpa [V.cells] using this
      · simp at hk hk'; omega
      · cases hk'
    · split at hk'
      · simp at hk hk'; omega
      · simp only [Bool.and_eq_true] at hk hk'
        have := eqInts_eq _ _ hk.2 hk'.2 hc
        rw [this]
      · cases hk'
    · cases hk
  · cases h

theorem setK_idx : ∀ (es : List (V × V)) (k v : V) (i0 : Nat), (idxK es k i0 = none ∧ setK es k v = es ++ [(k, v)]) ∨ ∃ i, idxK es k i0 = some (i0 + i) ∧ setK es k v = es.set i (k, v)
  | [], k, v, i0 => .inl ⟨rfl, rfl⟩
  | (k', u) :: es, k, v, i0 => by
    simp only [idxK, setK]
    by_cases h : keyEq k k' = true
    · rw [if_pos h, if_pos h]; exact .inr ⟨0, rfl, rfl⟩
    · rw [if_neg h, if_neg h]
      rcases setK_idx es k v (i0 + 1) with ⟨h1, h2⟩ | ⟨i, h1, h2⟩
      · exact .inl ⟨h1, by rw [h2]; rfl⟩
      · exact .inr ⟨i + 1, by rw [h1]; congr 1; omega, by rw [h2]; rfl⟩

theorem delK_idx : ∀ (es : List (V × V)) (k : V) (i0 : Nat), (idxK es k i0 = none ∧ delK es k = es) ∨ ∃ i, idxK es k i0 = some (i0 + i) ∧ delK es k = es.eraseIdx i
  | [], k, i0 => .inl ⟨rfl, rfl⟩
  | (k', u) :: es, k, i0 => by
    simp only [idxK, delK]
    by_cases h : keyEq k k' = true
    · rw [if_pos h, if_pos h]; exact .inr ⟨0, rfl, rfl⟩
    · rw [if_neg h, if_neg h]
      rcases delK_idx es k (i0 + 1) with ⟨h1, h2⟩ | ⟨i, h1, h2⟩
      · exact .inl ⟨h1, by rw [h2]⟩
      · exact .inr ⟨i + 1, by rw [h1]; congr 1; omega, by rw [h2]; rfl⟩

theorem getE {α : Type} {l : List α} {i : Nat} {x : α} (h : l[i]? = some x) : i < l.length := by
  rcases Nat.lt_or_ge i l.length with h' | h'
  · exact h'
  · rw [List.getElem?_eq_none h'] at h; cases h

theorem getA {α : Type} {l : Array α} {i : Nat} {x : α} (h : l[i]? = some x) : i < l.size := by
  rcases Nat.lt_or_ge i l.size with h' | h'
  · exact h'
  · rw [Array.getElem?_eq_none h'] at h; cases h

theorem mod_get (ents : Array MapEntry) (i j : Nat) (f : MapEntry → MapEntry) : (ents.modify i f)[j]? = if i = j then ents[j]?.map f else ents[j]? := by
  rw [Array.getElem?_modify]

theorem MapR.set {C : Ctx} {ar clock i : Nat} {es : List (V × V)} {ents : Array MapEntry} {k v : V} {f : MapEntry → MapEntry} (h : MapR C ar es ents clock) (hi : i < es.length) (hk : keyOk ar k = true)
    (hf : ∀ e, ents[i]? = some e → VR C k (f e).key ∧ VR C v (f e).val ∧ (f e).born = e.born) : MapR C ar (es.set i (k, v)) (ents.modify i f) clock := by
  refine ⟨by simpa using h.size, fun j k1 v1 hj => ?_, fun j l e e' hj hl hb => ?_⟩
  · rw [mod_get]
    rw [List.getElem?_set] at hj
    by_cases e : i = j
    · subst e
      simp only [if_true, hi] at hj; cases hj
      obtain ⟨e, h1, h2, h3, h4, h5⟩ := h.ent i es[i].1 es[i].2 (by simp [hi])
      obtain ⟨g1, g2, g3⟩ := hf e h1
      exact ⟨f e, by simp [h1], hk, g1, g2, by rw [g3]; exact h5⟩
    · rw [if_neg e] at hj ⊢
      exact h.ent j k1 v1 hj
  · rw [mod_get] at hj hl
    have b1 : ∀ (q : Nat) (e1 : MapEntry), (if i = q then ents[q]?.map f else ents[q]?) = some e1 → ∃ e2, ents[q]? = some e2 ∧ e1.born = e2.born := fun q e1 hq => by
      split at hq
      · rename_i hiq
        subst hiq
        cases hx : ents[i]? with
        | none => rw [hx] at hq; cases hq
        | some e2 => rw [hx] at hq; simp at hq; subst hq; exact ⟨e2, rfl, (hf e2 hx).2.2⟩
      · exact ⟨e1, hq, rfl⟩
    obtain ⟨e2, g1, g2⟩ := b1 j e hj
    obtain ⟨e3, g3, g4⟩ := b1 l e' hl
    exact h.born j l e2 e3 g1 g3 (by omega)

theorem MapR.push {C : Ctx} {ar clock : Nat} {es : List (V × V)} {ents : Array MapEntry} {k v : V} {x y : Value} (h : MapR C ar es ents clock) (hk : keyOk ar k = true) (hx : VR C k x) (hy : VR C v y) :
    MapR C ar (es ++ [(k, v)]) (ents.push { key := x, val := y, born := clock }) (clock + 1) := by
  have hs := h.size
  have hb : ∀ (q : Nat) (e : MapEntry), ents[q]? = some e → e.born < clock := fun q e hq => by
    have hq' : q < es.length := by have := getA hq; omega
    obtain ⟨e', h1, -, -, -, h5⟩ := h.ent q es[q].1 es[q].2 (by simp [hq'])
    rw [hq] at h1; cases h1; exact h5
  refine ⟨by simp [hs], fun j k1 v1 hj => ?_, fun j l e e' hj hl hbb => ?_⟩
  · rw [Array.getElem?_push, hs]
    by_cases e : j = es.length
    · subst e
      rw [List.getElem?_append_right (Nat.le_refl _)] at hj
      simp at hj; obtain ⟨rfl, rfl⟩ := hj
      exact ⟨{ key := x, val := y, born := clock }, by simp, hk, hx, hy, Nat.lt_succ_self _⟩
    · rw [if_neg e]
      have hlt : j < es.length := by have := getE hj; simp at this; omega
      rw [List.getElem?_append_left hlt] at hj
      obtain ⟨e1, h1, h2, h3, h4, h5⟩ := h.ent j k1 v1 hj
      exact ⟨e1, h1, h2, h3, h4, by omega⟩
  · rw [Array.getElem?_push] at hj hl
    split at hj <;> split at hl
    · omega
    · rename_i h1 h2
      simp only [Option.some.injEq] at hj; subst hj
      have := hb l e' hl
      simp only at hbb; omega
    · rename_i h1 h2
      simp only [Option.some.injEq] at hl; subst hl
      have := hb j e hj
      simp only at hbb; omega
    · exact h.born j l e e' hj hl hbb

theorem erase_get (ents : Array MapEntry) (i j : Nat) : (ents.eraseIdxIfInBounds i)[j]? = if j < i then ents[j]? else ents[j + 1]? := by
  have : (ents.eraseIdxIfInBounds i).toList = ents.toList.eraseIdx i := by
    rw [Array.toList_eraseIdxIfInBounds]
  rw [← Array.getElem?_toList, this, List.getElem?_eraseIdx]
  simp

theorem MapR.erase {C : Ctx} {ar clock : Nat} {es : List (V × V)} {ents : Array MapEntry} (h : MapR C ar es ents clock) (i : Nat) : MapR C ar (es.eraseIdx i) (ents.eraseIdxIfInBounds i) clock := by
  have hs := h.size
  refine ⟨?_, fun j k v hj => ?_, fun j l e e' hj hl hb => ?_⟩
  · have : (ents.eraseIdxIfInBounds i).size = (ents.toList.eraseIdx i).length := by
      rw [← Array.length_toList, Array.toList_eraseIdxIfInBounds]
    rw [this, List.length_eraseIdx, List.length_eraseIdx]
    simp [hs]
  · rw [erase_get]
    rw [List.getElem?_eraseIdx] at hj
    split at hj
    · rename_i hlt; rw [if_pos hlt]; exact h.ent _ _ _ hj
    · rename_i hlt; rw [if_neg hlt]; exact h.ent _ _ _ hj
  · rw [erase_get] at hj hl
    split at hj <;> split at hl <;> (have := h.born _ _ _ _ hj hl hb; omega)

section
variable {P : Program} {E : Env} [Glob] {φ : Phi} {lam : Nat → Nat} {perm : Perm} {S : St} {a : Act} {w : World} {o : Oper} {K : Upd → Prop}

omit [Glob] in
theorem map_evo {M : Mem} {r0 b clock clock' : Nat} {ents ents' : Array MapEntry} (hM : M[r0]? = some (.map ents clock)) (hp : perm r0 = some (.hb b, 0)) : Evo M perm (M.setIfInBounds r0 (.map ents' clock')) perm := by
  have hlt := lt_of_some hM
  refine Evo.at (r0 := r0) (by simp) (fun r hr => ⟨by rw [set_get hlt, if_neg (Ne.symm hr)], rfl⟩) hp (by simp) (fun o v hi _ => by rw [imm_zero hp] at hi; cases hi) ?_
  unfold blockSize; rw [hM]; exact Nat.zero_le _

/-- the world with an object changed -/
def chB (w : World) (r : Nat) (o : Obj) : World := { w with heap := w.heap.setIfInBounds r o }

omit [Glob] in
theorem setObj_run {r clock : Nat} {ents : Array MapEntry} {o' : Obj} (h : w.heap[r]? = some (.map ents clock)) : (setObj r o').run P w = .ok () (chB w r o') := by
  simp [setObj, Sem.run, chB, h]

omit [Glob] in
theorem getObj_run {r clock : Nat} {ents : Array MapEntry} (h : w.heap[r]? = some (.map ents clock)) : (getObj r).run P w = .ok (.map ents clock) w := by
  simp [getObj, Sem.run, h]

omit [Glob] in
theorem mval_vr {C : Ctx} {M : Mem} {bx : Nat → Option (List V)} {v : V} {x : Value} (h : OV C M lam bx v x) (hm : mval v = true) : VR C v x := by
  cases v <;> simp only [mval] at hm <;> first | exact h | cases hm

/-- after a write to a map: the state -/
theorem map_fin {r ar : Nat} {es es' : List (V × V)} {ents ents' : Array MapEntry} {clock clock' : Nat} (h : FRs φ lam perm S a w.heap) (he : S.hp[r]? = some (.map ar es)) (hM : w.heap[φ r]? = some (.map ents clock))
    (hst : noSt S.tm = true ∨ ∀ (i : Nat) (e : MapEntry), ents[i]? = some e → ∃ e' : MapEntry, ents'[i]? = some e' ∧ e'.born = e.born)
    (hmr : MapR (mkC φ S.hp.length perm w.heap) ar es' ents' clock') :
    FRs φ lam perm { S with hp := S.hp.set r (.map ar es') } a (chB w (φ r) (.map ents' clock')).heap ∧ Evo w.heap perm (chB w (φ r) (.map ents' clock')).heap perm := by
  obtain ⟨hp, -⟩ := h.hr.maps r ar es he
  change perm (φ r) = some (.hb r, 0) at hp
  have hE : Evo w.heap perm (w.heap.setIfInBounds (φ r) (.map ents' clock')) perm := map_evo hM hp
  exact h.wrMap he hM hst (hmr.mono (hE.le (fun _ _ => rfl) (Nat.le_refl _)))

theorem s_mapUpdate {oa : OA} (hE : EnvM P E) (h : FRs φ lam perm S a w.heap) {t : Nat} {m k v : Operand} (hop : o.op = .mapUpdate t m k v) (hdst : o.dst = none)
    (hK : (match (E.ti t).sh, evO S.tm oa.take 0 m with
     | .map kt _, .map r => (match S.hp[r]? with
       | some (.map ar es) =>
         let key := (evO S.tm oa.take 0 k).strip
         let val := (evO S.tm oa.take 0 v).strip
         if ar = arOf E kt ∧ keyOk ar key ∧ mval val then .ok { tw := oa.take.map (fun t => (t, V.dead)), hw := some (S.hp.set r (.map ar (setK es key val))) } else .fail
       | _ => .fail)
     | _, _ => .fail : Out).wp K) : Does P o a w (R0 φ perm S a w o K) := by
  obtain ⟨hm, -⟩ := h.ev oa.take 0 m
  obtain ⟨hk, -⟩ := h.ev oa.take 0 k
  obtain ⟨hv, -⟩ := h.ev oa.take 0 v
  split at hK
  · rename_i kt elem r hs hvm
    rw [hvm] at hm
    have ht := (TIok.sh' hE.ok hs (by simp)).sh
    rw [hs] at ht
    have hkey := hE.key t kt elem hs
    split at hK
    · rename_i ar es he
      dsimp only at hK
      split at hK
      · rename_i hc
        obtain ⟨rfl, hko, hmv⟩ := hc
        obtain ⟨hp, ents, clock, hM, hmr⟩ := h.hr.maps r _ es he
        have hM' : w.heap[φ r]? = some (.map ents clock) := hM
        have hkv := strip_ov hk hko
        have hvv := mval_vr hv.strip hmv
        have em : a.eval m = .map (some (φ r)) := (VR.mapI hm).1
        have hfind := hkey.find _ _ _ es ents.toList w hko hkv (by simpa using hmr.size.symm) (fun i k' v' hi => by
            obtain ⟨e, h1, h2, h3, -⟩ := hmr.ent i k' v' hi
            exact ⟨e, by simpa using h1, h2, h3⟩)
        have hcheck := hkey.check _ _ _ false w hko hkv
        rcases setK_idx es (evO S.tm oa.take 0 k).strip (evO S.tm oa.take 0 v).strip 0 with ⟨h1, h2⟩ | ⟨i, h1, h2⟩
        · rw [h1] at hfind
          rw [h2] at hK
          obtain ⟨hF, hEv⟩ := map_fin h he hM' (ents' := ents.push { key := a.eval k, val := a.eval v, born := clock }) (clock' := clock + 1) (.inr fun i e hi => ⟨e, by rw [Array.getElem?_push, if_neg (Nat.ne_of_lt (getA hi))]; exact hi, rfl⟩) (hmr.push hko hkv hvv)
          refine .inr (.inl ⟨chB w (φ r) (.map (ents.push { key := a.eval k, val := a.eval v, born := clock }) (clock + 1)), ?_, _, hK, ?_⟩)
          · simp [execOp, hop, Instr.mapUpdate, rU ht, em, getObj_run hM', hcheck, hfind, setObj_run hM']
          · rw [hdst]
            exact ⟨⟨φ, lam, perm, hF.kills oa.take, hEv, fun _ _ => rfl, fun _ _ _ h => h⟩, by simp [St.apply], rfl, rfl, rfl⟩
        · rw [h1] at hfind
          rw [h2] at hK
          rcases idxK_find es (evO S.tm oa.take 0 k).strip 0 with ⟨g1, -⟩ | ⟨i', k', v', g1, g2, g3, g4⟩
          · rw [g1] at h1; cases h1
          · have hii : i' = i := by rw [h1] at g1; simpa using g1.symm
            subst hii
            obtain ⟨e, k1, k2, k3, k4, -⟩ := hmr.ent i' k' v' g2
            have k1' : ents[i']? = some e := k1
            simp only [Nat.zero_add, Option.bind_some, Array.getElem?_toList, k1', Option.map_some] at hfind
            have hsame := hkey.same _ _ _ _ _ w hko k2 g4 hkv k3
            obtain ⟨hF, hEv⟩ := map_fin h he hM' (ents' := ents.modify i' fun e => { e with key := a.eval k, val := a.eval v }) (clock' := clock) (.inr fun j e hj => by
                rw [mod_get]
                split
                · rw [hj]; exact ⟨_, rfl, rfl⟩
                · exact ⟨e, hj, rfl⟩) (hmr.set (getE g2) hko (fun e _ => ⟨hkv, hvv, rfl⟩))
            refine .inr (.inl ⟨chB w (φ r) (.map (ents.modify i' fun e => { e with key := a.eval k, val := a.eval v }) clock), ?_, _, hK, ?_⟩)
            · simp [execOp, hop, Instr.mapUpdate, rU ht, em, getObj_run hM', hcheck, hfind, k1', hsame, setObj_run hM']
            · rw [hdst]
              exact ⟨⟨φ, lam, perm, hF.kills oa.take, hEv, fun _ _ => rfl, fun _ _ _ h => h⟩, by simp [St.apply], rfl, rfl, rfl⟩
      · exact hK.elim
    · exact hK.elim
  · exact hK.elim
end
end Go.Hx

/-
  Hx, part 22: entries, delete; values moved out of memory.
-/
namespace Go.Hx
open Go

theorem set_self {α : Type} {l : List α} {i : Nat} {x : α} (h : l[i]? = some x) : l.set i x = l := by
  apply List.ext_getElem?
  intro j
  rw [List.getElem?_set]
  split
  · rename_i e; subst e
    rw [if_pos (getE h), h]
  · rfl

theorem modify_self (ents : Array MapEntry) (i : Nat) (f : MapEntry → MapEntry) (h : ∀ e, ents[i]? = some e → f e = e) : ents.modify i f = ents := by
  apply Array.ext_getElem?
  intro j
  rw [mod_get]
  split
  · rename_i e; subst e
    cases hx : ents[i]? with
    | none => rfl
    | some e => simp [h e hx]
  · rfl

section
variable {P : Program} {E : Env} [Glob] {φ : Phi} {lam : Nat → Nat} {perm : Perm} {S : St} {a : Act} {w : World} {o : Oper} {K : Upd → Prop}

theorem s_mapEntry {oa : OA} (hE : EnvM P E) (h : FRs φ lam perm S a w.heap) {t : Nat} {m k : Operand} (hop : o.op = .mapEntry t m k)
    (hK : (match (E.ti t).sh, evO S.tm oa.take 0 m, o.dst with
     | .map kt elem, .map r, some d => (match S.hp[r]? with
       | some (.map ar es) =>
         let key := (evO S.tm oa.take 0 k).strip
         if ar = arOf E kt ∧ keyOk ar key ∧ (E.ti elem).ok then
           match idxK es key 0 with
           | some i => .find (findK es key) (fun v => .ok { tw := oa.take.map (fun t => (t, V.dead)) ++ [(d, V.ment v.strip r i)] }) .fail
           | none => .ok { tw := oa.take.map (fun t => (t, V.dead)) ++ [(d, V.ment (zeroOf E elem) r es.length)], hw := some (S.hp.set r (.map ar (es ++ [(key, zeroOf E elem)]))) }
         else .fail
       | _ => .fail)
     | _, _, _ => .fail : Out).wp K) : Does P o a w (R0 φ perm S a w o K) := by
  obtain ⟨hm, -⟩ := h.ev oa.take 0 m
  obtain ⟨hk, -⟩ := h.ev oa.take 0 k
  split at hK
  · rename_i kt elem r d hs hvm hd
    rw [hvm] at hm
    have ht := (TIok.sh' hE.ok hs (by simp)).sh
    rw [hs] at ht
    have hkey := hE.key t kt elem hs
    split at hK
    · rename_i ar es he
      dsimp only at hK
      split at hK
      · rename_i hc
        obtain ⟨rfl, hko, hok⟩ := hc
        obtain ⟨hp, ents, clock, hM, hmr⟩ := h.hr.maps r _ es he
        have hM' : w.heap[φ r]? = some (.map ents clock) := hM
        have hlt := lt_of_some hM'
        have hkv := strip_ov hk hko
        have hrn : r < S.hp.length := hlt_of_some he
        have em : a.eval m = .map (some (φ r)) := (VR.mapI hm).1
        have hfind := hkey.find _ _ _ es ents.toList w hko hkv (by simpa using hmr.size.symm) (fun i k' v' hi => by
            obtain ⟨e, h1, h2, h3, -⟩ := hmr.ent i k' v' hi
            exact ⟨e, by simpa using h1, h2, h3⟩)
        have hcheck := hkey.check _ _ _ false w hko hkv
        obtain ⟨z, hz, hzv, hzr⟩ := zero_ov (C := mkC φ S.hp.length perm w.heap) (hE.ok elem hok)
        rcases idxK_find es (evO S.tm oa.take 0 k).strip 0 with ⟨h1, h2⟩ | ⟨i, k', v, h1, h2, h3, h4⟩
        · rw [h1] at hfind hK
          dsimp only at hK
          obtain ⟨hF, hEv⟩ := map_fin h he hM' (ents' := ents.push { key := a.eval k, val := z, born := clock }) (clock' := clock + 1) (.inr fun i e hi => ⟨e, by rw [Array.getElem?_push, if_neg (Nat.ne_of_lt (getA hi))]; exact hi, rfl⟩) (hmr.push hko hkv hzv)
          refine .inl ⟨.tuple #[z, goInt clock], chB w (φ r) (.map (ents.push { key := a.eval k, val := z, born := clock }) (clock + 1)), ?_, _, hK, ?_⟩
          · simp [execOp, hop, Instr.mapEntry, rU ht, em, getObj_run hM', hcheck, hfind, setObj_run hM', hz]
          · rw [hd]
            refine ⟨⟨φ, lam, perm, result_tw hF oa.take d (v := .ment (zeroOf E elem) r es.length) ⟨z, goInt clock, rfl, ?_, ?_⟩ (fun _ _ _ => by unfold Rt; trivial), hEv, fun _ _ => rfl, fun _ _ _ h => h⟩, by simp [St.apply], rfl, rfl, rfl⟩
            · simp only [List.length_set]; exact hzv.mono (hEv.le (fun _ _ => rfl) (Nat.le_refl _))
            · refine ⟨by simp [mkC, hrn], _, _, { key := a.eval k, val := z, born := clock }, by show (chB w (φ r) _).heap[φ r]? = _; exact (set_get hlt _).trans (if_pos rfl), by rw [← hmr.size]; simp, rfl⟩
        · rw [Nat.zero_add] at h1
          rw [h1] at hfind hK
          dsimp only at hK
          have hK := hK.1 v h3
          obtain ⟨e, k1, k2, k3, k4, -⟩ := hmr.ent i k' v h2
          have k1' : ents[i]? = some e := k1
          simp only [Option.bind_some, Array.getElem?_toList, k1', Option.map_some] at hfind
          have hsame := hkey.same _ _ _ _ _ w hko k2 h4 hkv k3
          have hkk := keyEq_eq hko k2 h4
          have hes : es.set i (k', v) = es := set_self h2
          have hmr' := hmr.set (f := fun e => { e with key := a.eval k }) (getE h2) k2 (v := v) (fun e' he' => by
            rw [k1'] at he'; cases he'
            exact ⟨by rw [← hkk]; exact hkv, k4, rfl⟩)
          rw [hes] at hmr'
          obtain ⟨hF, hEv⟩ := map_fin h he hM' (ents' := ents.modify i fun e => { e with key := a.eval k }) (clock' := clock) (.inr fun j e hj => by
                rw [mod_get]
                split
                · rw [hj]; exact ⟨_, rfl, rfl⟩
                · exact ⟨e, hj, rfl⟩) hmr'
          have hSS : ({ S with hp := S.hp.set r (.map (arOf E kt) es) } : St) = S := by
            have : S.hp.set r (.map (arOf E kt) es) = S.hp := set_self he
            rw [this]
          rw [hSS] at hF
          refine .inl ⟨.tuple #[e.val, goInt e.born], chB w (φ r) (.map (ents.modify i fun e => { e with key := a.eval k }) clock), ?_, _, hK, ?_⟩
          · simp [execOp, hop, Instr.mapEntry, rU ht, em, getObj_run hM', hcheck, hfind, k1', hsame, setObj_run hM']
          · rw [hd]
            refine ⟨⟨φ, lam, perm, result_tw hF oa.take d (v := .ment v.strip r i) ⟨e.val, goInt e.born, rfl, ?_, ?_⟩ (fun _ _ _ => by unfold Rt; trivial), hEv, fun _ _ => rfl, fun _ _ _ h => h⟩, Nat.le_refl _, rfl, rfl, rfl⟩
            · exact k4.strip.mono (hEv.le (fun _ _ => rfl) (Nat.le_refl _))
            · refine ⟨by simp [mkC, hrn], _, _, { e with key := a.eval k }, by show (chB w (φ r) _).heap[φ r]? = _; exact (set_get hlt _).trans (if_pos rfl), by rw [mod_get, if_pos rfl, k1']; rfl, rfl⟩
      · exact hK.elim
    · exact hK.elim
  · exact hK.elim

theorem s_entryStore {oa : OA} (h : FRs φ lam perm S a w.heap) {t : Nat} {m s v : Operand} (hop : o.op = .entryStore t m s v) (hdst : o.dst = none)
    (hK : (match evO S.tm oa.take 0 m, evO S.tm oa.take 0 s with
     | .map r, .stamp r' i => (match S.hp[r]? with
       | some (.map ar es) => if r = r' ∧ mval (evO S.tm oa.take 0 v).strip then
           (match es[i]? with
            | some (k, _) => .ok { tw := oa.take.map (fun t => (t, V.dead)), hw := some (S.hp.set r (.map ar (es.set i (k, (evO S.tm oa.take 0 v).strip)))) }
            | none => .fail) else .fail
       | _ => .fail)
     | _, _ => .fail : Out).wp K) : Does P o a w (R0 φ perm S a w o K) := by
  obtain ⟨hm, -⟩ := h.ev oa.take 0 m
  obtain ⟨hs, -⟩ := h.ev oa.take 0 s
  obtain ⟨hv, -⟩ := h.ev oa.take 0 v
  split at hK
  · rename_i r r' i hvm hvs
    rw [hvm] at hm
    rw [hvs] at hs
    split at hK
    · rename_i ar es he
      split at hK
      · rename_i hc
        obtain ⟨rfl, hmv⟩ := hc
        split at hK
        · rename_i k v0 hi
          obtain ⟨hp, ents, clock, hM, hmr⟩ := h.hr.maps r _ es he
          have hM' : w.heap[φ r]? = some (.map ents clock) := hM
          obtain ⟨-, ents1, clock1, e, g1, g2, g3⟩ := hs
          have g1' : w.heap[φ r]? = some (.map ents1 clock1) := g1
          rw [hM'] at g1'
          simp only [Option.some.injEq, Obj.map.injEq] at g1'
          obtain ⟨rfl, rfl⟩ := g1'
          obtain ⟨e', k1, k2, k3, k4, -⟩ := hmr.ent i k v0 hi
          have : e' = e := by have k1' : ents[i]? = some e' := k1; rw [g2] at k1'; exact (Option.some.inj k1').symm
          subst this
          have hvv := mval_vr hv.strip hmv
          have em : a.eval m = .map (some (φ r)) := (VR.mapI hm).1
          have hfi : ents.findIdx? (fun e => (e.born : Int) == (e'.born : Int)) = some i := by
            rw [Array.findIdx?_eq_some_iff_getElem]
            refine ⟨getA g2, ?_, fun j hj => ?_⟩
            · have : ents[i]'(getA g2) = e' := by
                have := Array.getElem?_eq_getElem (getA g2); rw [g2] at this; exact (Option.some.inj this).symm
              simp [this]
            · simp only [beq_iff_eq, Int.ofNat_inj]
              intro hb
              have hjl : j < ents.size := Nat.lt_trans hj (getA g2)
              have := hmr.born j i ents[j] e' (by simp [hjl]) g2 hb
              omega
          have hmr' := hmr.set (f := fun e => { e with val := a.eval v }) (getE hi) k2 (v := (evO S.tm oa.take 0 v).strip) (fun e2 he2 => by
            rw [g2] at he2; cases he2
            exact ⟨k3, hvv, rfl⟩)
          obtain ⟨hF, hEv⟩ := map_fin h he hM' (ents' := ents.modify i fun e => { e with val := a.eval v }) (clock' := clock) (.inr fun j e hj => by
                rw [mod_get]
                split
                · rw [hj]; exact ⟨_, rfl, rfl⟩
                · exact ⟨e, hj, rfl⟩) hmr'
          refine .inr (.inl ⟨chB w (φ r) (.map (ents.modify i fun e => { e with val := a.eval v }) clock), ?_, _, hK, ?_⟩)
          · simp [execOp, hop, Instr.entryStore, em, getObj_run hM', g3, goInt, asInt, asIntOf, hfi, setObj_run hM']
          · rw [hdst]
            exact ⟨⟨φ, lam, perm, hF.kills oa.take, hEv, fun _ _ => rfl, fun _ _ _ h => h⟩, by simp [St.apply], rfl, rfl, rfl⟩
        · exact hK.elim
      · exact hK.elim
    · exact hK.elim
  · exact hK.elim

theorem s_delete {oa : OA} (hE : EnvM P E) (h : FRs φ lam perm S a w.heap) {args : Array Operand} {ats : Array Nat} {t0 : Nat} (hop : o.op = .call { callee := .builtin .delete, args := args, argTypes := ats })
    (h0 : ats[0]? = some t0) (hK : (builtinOut E o.dst oa.take oa.mode .delete t0 ats.toList (args.toList.map (evO S.tm oa.take (E.kOf t0))) S.tm S.hp).wp K) : Does P o a w (R0 φ perm S a w o K) := by
  simp only [builtinOut] at hK
  split at hK
  · rename_i kt elem r kv hs hargs
    obtain ⟨x, y, rfl, hvx, hvy⟩ := args_two hargs
    obtain ⟨hm, -⟩ := h.ev oa.take (E.kOf t0) x
    obtain ⟨hk, -⟩ := h.ev oa.take (E.kOf t0) y
    rw [← hvx] at hm
    rw [← hvy] at hk
    have ht := (TIok.sh' hE.ok hs (by simp)).sh
    rw [hs] at ht
    have hkey := hE.key t0 kt elem hs
    split at hK
    · rename_i ar es he
      split at hK
      · rename_i hc
        obtain ⟨rfl, hko, hns⟩ := hc
        obtain ⟨hp, ents, clock, hM, hmr⟩ := h.hr.maps r _ es he
        have hM' : w.heap[φ r]? = some (.map ents clock) := hM
        have hkv := strip_ov hk hko
        have em : a.eval x = .map (some (φ r)) := (VR.mapI hm).1
        have hfind := hkey.find _ _ _ es ents.toList w hko hkv (by simpa using hmr.size.symm) (fun i k' v' hi => by
            obtain ⟨e, h1, h2, h3, -⟩ := hmr.ent i k' v' hi
            exact ⟨e, by simpa using h1, h2, h3⟩)
        have hcheck := hkey.check _ _ _ ents.isEmpty w hko hkv
        have fin : ∀ (ents' : Array MapEntry) (es' : List (V × V)), delK es kv.strip = es' → MapR (mkC φ S.hp.length perm w.heap) (arOf E kt) es' ents' clock →
            (Builtin.delete_ ats o.type #[a.eval x, a.eval y]).run P w = .ok (.tuple #[]) (chB w (φ r) (.map ents' clock)) → Does P o a w (R0 φ perm S a w o K) := by
          intro ents' es' hde hmr' hrun
          obtain ⟨hF, hEv⟩ := map_fin h he hM' (.inl hns) hmr'
          rw [hde] at hK
          refine .inl ⟨.tuple #[], chB w (φ r) (.map ents' clock), run_builtin hop (by simp [builtin, hrun]), _, hK, ?_⟩
          cases hd : o.dst with
          | none =>
            have := hF.kills oa.take
            simp only [List.append_nil]
            exact ⟨⟨φ, lam, perm, this, hEv, fun _ _ => rfl, fun _ _ _ h => h⟩, by simp [St.apply], rfl, rfl, rfl⟩
          | some d =>
            refine ⟨⟨φ, lam, perm, result_tw hF oa.take d (v := .tup []) ?_ (fun _ _ _ => by unfold Rt; trivial), hEv, fun _ _ => rfl, fun _ _ _ h => h⟩, by simp [St.apply], rfl, rfl, rfl⟩
            exact VR.tup (fun _ => undef) rfl (fun i hi => by simp at hi) (fun i v hv => by simp at hv)
        rcases delK_idx es kv.strip 0 with ⟨h1, h2⟩ | ⟨i, h1, h2⟩
        · rw [h1] at hfind
          refine fin ents es h2 hmr ?_
          simp [Builtin.delete_, h0, rU ht, em, getObj_run hM', hcheck, hfind, setObj_run hM']
        · rw [h1] at hfind
          rcases idxK_find es kv.strip 0 with ⟨g1, -⟩ | ⟨i', k', v', g1, g2, g3, g4⟩
          · rw [g1] at h1; cases h1
          · have hii : i' = i := by rw [h1] at g1; simpa using g1.symm
            subst hii
            obtain ⟨e, k1, -⟩ := hmr.ent i' k' v' g2
            have k1' : ents[i']? = some e := k1
            simp only [Nat.zero_add, Option.bind_some, Array.getElem?_toList, k1', Option.map_some] at hfind
            refine fin _ _ h2 (hmr.erase i') ?_
            simp [Builtin.delete_, h0, rU ht, em, getObj_run hM', hcheck, hfind, setObj_run hM']
      · exact hK.elim
    · exact hK.elim
  · exact hK.elim
end
end Go.Hx

/-
  Hx, part 23: values moved out of memory.
-/
namespace Go.Hx
open Go

section
variable {P : Program} {E : Env} [Glob] {φ : Phi} {lam : Nat → Nat} {perm : Perm} {S : St} {a : Act} {w : World} {o : Oper} {K : Upd → Prop}

omit [Glob] in
theorem RowR.dead {C : Ctx} {M : Mem} {p : Nat → Pos} {cs : List V} {arr : Array Value} (h : RowR C perm M p cs arr) (q : Nat) : RowR C perm M p (cs.set q .dead) arr :=
  ⟨by simpa using h.1, fun i v hv => by
    rw [List.getElem?_set] at hv
    split at hv
    · rename_i e
      subst e
      split at hv
      · rename_i hlt
        cases hv
        obtain ⟨x, hx, -⟩ := h.2 q cs[q] (by simp [hlt])
        exact ⟨x, hx, .inl rfl⟩
      · cases hv
    · exact h.2 i v hv⟩

theorem FRs.deadBox {M : Mem} (h : FRs φ lam perm S a M) {s q : Nat} {cs : List V} (hb : S.box s = some cs) : FRs φ lam perm { S with bx := setBx S.bx s (cs.set q .dead) } a M := by
  refine ⟨h.hr, fun s1 cs1 hs1 => ?_, fun t v hv => ?_, h.len, h.defers, h.fresh, h.gl⟩
  · simp only [St.box, look_setBx] at hs1
    by_cases e : s = s1
    · subst e
      simp only [if_true] at hs1; cases hs1
      obtain ⟨h1, arr, elem, h2, h3⟩ := h.br s cs hb
      exact ⟨h1, arr, elem, h2, h3.dead q⟩
    · simp only [e, if_false] at hs1
      exact h.br s1 cs1 hs1
  · refine (h.tm t v hv).keep (Ctx.le.refl _) (fun hr => hr) (fun _ _ _ _ _ => rfl) (fun s1 cs1 hs1 => ⟨rfl, ?_⟩)
    simp only [St.box, look_setBx]
    by_cases e : s = s1
    · subst e
      rw [hb] at hs1; cases hs1
      exact ⟨cs.set q .dead, by simp, by simp⟩
    · exact ⟨cs1, by simp only [e, if_false]; exact hs1, Nat.le_refl _⟩

theorem FRs.deadHeap {M : Mem} (h : FRs φ lam perm S a M) {b q : Nat} {cs : List V} (hb : S.hp[b]? = some (.cells cs)) : FRs φ lam perm { S with hp := S.hp.set b (.cells (cs.set q .dead)) } a M := by
  have hblt := hlt_of_some hb
  have hlen : (S.hp.set b (.cells (cs.set q .dead))).length = S.hp.length := by simp
  refine ⟨?_, ?_, ?_, h.len, h.defers, h.fresh, h.gl⟩ <;> simp only [hlen]
  · refine ⟨fun b' cs1 hb' => ?_, fun b' ar es hb' => ?_, fun b' k' cs1 ver hb' => ?_, fun b' m hb' => ?_, h.hr.hdlt⟩
    · simp only [hset_get hblt] at hb'
      by_cases e : b = b'
      · subst e
        simp only [if_true] at hb'; cases hb'
        obtain ⟨h1, arr, elem, h2, h3⟩ := h.hr.cells b cs hb
        exact ⟨h1, arr, elem, h2, h3.dead q⟩
      · simp only [e, if_false] at hb'
        exact h.hr.cells b' cs1 hb'
    · simp only [hset_get hblt] at hb'
      by_cases e : b = b'
      · subst e; simp at hb'
      · simp only [e, if_false] at hb'
        exact h.hr.maps b' ar es hb'
    · simp only [hset_get hblt] at hb'
      by_cases e : b = b'
      · subst e; simp at hb'
      · simp only [e, if_false] at hb'
        exact h.hr.vecs b' k' cs1 ver hb'
    · simp only [hset_get hblt] at hb'
      by_cases e : b = b'
      · subst e; simp at hb'
      · simp only [e, if_false] at hb'
        exact h.hr.eits b' m hb'
  · exact h.br
  · exact h.tm

/-- a value moved from one place to a tmp -/
theorem FRs.moved {M : Mem} (h : FRs φ lam perm S a M) {p : Pos} (hp : S.deadAt p) (take : List Nat) (dst : Option Nat) {v : V} {x : Value} (hv : VR (mkC φ S.hp.length perm M) v x) (hr : Rt perm M p v x)
    (hpt : ∀ t, p ≠ .t t) :
    ∃ perm', FRs φ lam perm' { S with tm := ((take.map fun t => (t, V.dead)) ++ (match dst with | some d => [(d, v)] | none => [])).foldl (fun tm p => tm.set p.1 p.2) S.tm } (a.put dst x) M ∧ Evo M perm M perm' := by
  have hk := h.kills take
  cases dst with
  | none =>
    simp only [List.append_nil]
    exact ⟨perm, hk, Evo.refl _ _⟩
  | some d =>
    rw [dstw]
    simp only [List.foldl_cons, List.foldl_nil]
    have hd : ({ S with tm := (take.map fun t => (t, V.dead)).foldl (fun tm p => tm.set p.1 p.2) S.tm } : St).deadAt p := by
      cases p with
      | t t => exact absurd rfl (hpt t)
      | b s i => exact hp
      | h b i => exact hp
      | ret => trivial
    refine ⟨renP perm p (.t d), (hk.ren hd (.t d)).setT ?_, Evo.ren _ _ _⟩
    exact TV.of (hv.mono ((Evo.ren M p (.t d)).le (fun _ _ => rfl) (Nat.le_refl _))).ov hr.ren_same

theorem s_load {oa : OA} (hE : EnvE P E) (h : FRs φ lam perm S a w.heap) {t : Nat} {x : Operand} (hop : o.op = .load t x)
    (hK : (if (E.ti t).ok then outLoad (E.ti t) o.dst oa.take (oa.mode == 1) S.box S.hp (evO S.tm oa.take 0 x) else .fail : Out).wp K) : Does P o a w (R0 φ perm S a w o K) := by
  split at hK
  · rename_i hok
    cases hm : (oa.mode == 1) with
    | false => rw [hm] at hK; exact does_load hE h hop hok hK
    | true =>
      rw [hm] at hK
      obtain ⟨hx, -⟩ := h.ev oa.take 0 x
      have ht := hE.ok t hok
      have run : ∀ {r q : Nat} {y : Value}, a.eval x = .pointer (some ⟨r, q, none⟩) → (E.ti t).agg = false → cellAt w.heap r q = some y → (execOp a.eval o).run P w = .ok (.value y) w := by
        intro r q y e hag hc
        have : (loadVar t ⟨r, q, none⟩).run P w = .ok y w := by
          simp only [loadVar, Sem.run_bind, rA ht, Result.andThen_ok, hag, Bool.false_eq_true, if_false, run_load, cell?_eq, hc]
        simp [execOp, hop, Instr.loadAt, e, Instr.sureAddr, this]
      unfold outLoad at hK
      split at hK
      · exact hK.elim
      · rename_i s q he
        rw [he] at hx
        split at hK
        · exact hK.elim
        · rename_i cs hcs
          simp only [if_true] at hK
          split at hK
          · rename_i v hv
            split at hK
            · exact hK.elim
            · rename_i hd
              simp only [Bool.or_eq_true, not_or, Bool.not_eq_true] at hd
              obtain ⟨hd1, hd2⟩ := hd
              obtain ⟨hp, arr, elem, hM, hrow⟩ := h.br s cs hcs
              obtain ⟨y, hy, hc⟩ := hrow.2 q v hv
              rcases hc with hc | ⟨hc1, hc2, hc3⟩
              · rw [hc] at hd1; simp [V.isDead] at hd1
              · have hD := h.deadBox (q := q) hcs
                have hdead : ({ S with bx := setBx S.bx s (cs.set q .dead) } : St).deadAt (.b s q) := fun cs1 v1 h1 h2 => by
                  simp only [St.box, look_setBx, if_true] at h1; cases h1
                  rw [List.getElem?_set] at h2; simp at h2; exact h2.2.symm
                obtain ⟨perm', hF, hEv⟩ := hD.moved hdead oa.take o.dst hc2 hc3 (by simp)
                exact .inl ⟨y, w, run hx.2 hd2 (by rw [cellAt_cells hM]; exact hy), _, hK, ⟨⟨φ, lam, perm', hF, hEv, fun _ _ => rfl, fun _ _ _ h => h⟩, Nat.le_refl _, rfl, rfl, rfl⟩⟩
          · exact hK.elim
      · rename_i b q he
        rw [he] at hx
        split at hK
        · rename_i cs hcs
          simp only [if_true] at hK
          split at hK
          · rename_i v hv
            split at hK
            · exact hK.elim
            · rename_i hd
              simp only [Bool.or_eq_true, not_or, Bool.not_eq_true] at hd
              obtain ⟨hd1, hd2⟩ := hd
              obtain ⟨hp, arr, elem, hM, hrow⟩ := h.hr.cells b cs hcs
              obtain ⟨y, hy, hc⟩ := hrow.2 q v hv
              rcases hc with hc | ⟨hc1, hc2, hc3⟩
              · rw [hc] at hd1; simp [V.isDead] at hd1
              · have hD := h.deadHeap (q := q) hcs
                have hblt := hlt_of_some hcs
                have hdead : ({ S with hp := S.hp.set b (.cells (cs.set q .dead)) } : St).deadAt (.h b q) := fun cs1 v1 h1 h2 => by
                  simp only [hset_get hblt, if_true] at h1; cases h1
                  rw [List.getElem?_set] at h2; simp at h2; exact h2.2.symm
                obtain ⟨perm', hF, hEv⟩ := hD.moved hdead oa.take o.dst (by simpa using hc2) hc3 (by simp)
                exact .inl ⟨y, w, run (VR.ptrI hx).1 hd2 (by show cellAt w.heap (φ b) q = some y; rw [cellAt_cells (r := φ b) hM]; exact hy), _, hK, ⟨⟨φ, lam, perm', hF, hEv, fun _ _ => rfl, fun _ _ _ h => h⟩, by simp [St.apply], rfl, rfl, rfl⟩⟩
          · exact hK.elim
        · exact hK.elim
      · split at hK
        · split at hK
          · rename_i hc; exact absurd hc.2 (by simp)
          · exact hK.elim
        · exact hK.elim
      · exact hK.elim
  · exact hK.elim
end
end Go.Hx

/-
  Hx: clear.
-/
namespace Go.Hx
open Go

section
variable {P : Program} {E : Env} [Glob] {φ : Phi} {lam : Nat → Nat} {perm : Perm} {S : St} {a : Act} {w : World} {o : Oper} {K : Upd → Prop}

omit [Glob] in
theorem AR.one {C : Ctx} {vs : List V} {xs : Array Value} (h : AR C vs xs) : ∀ u ∈ xs.toList, u.oneCell' = true := fun u hu => by
  obtain ⟨i, hi⟩ := List.mem_iff_getElem?.1 hu
  have hlt : i < vs.length := by
    have := h.size
    rcases Nat.lt_or_ge i vs.length with h' | h'
    · exact h'
    · rw [List.getElem?_eq_none (by simp; omega)] at hi; cases hi
  obtain ⟨h1, y, h2, h3, -⟩ := h.each i vs[i] (by simp [hlt])
  have h2' : xs.toList[i]? = some y := by simpa using h2
  rw [hi] at h2'; cases h2'
  exact one_cell (h3.one_of_cell h1)

theorem s_clear {oa : OA} (hE : EnvE P E) (h : FRs φ lam perm S a w.heap) {args : Array Operand} {ats : Array Nat} {t0 : Nat} (hop : o.op = .call { callee := .builtin .clear, args := args, argTypes := ats })
    (h0 : ats[0]? = some t0) (hK : (builtinOut E o.dst oa.take oa.mode .clear t0 ats.toList (args.toList.map (evO S.tm oa.take (E.kOf t0))) S.tm S.hp).wp K) : Does P o a w (R0 φ perm S a w o K) := by
  simp only [builtinOut] at hK
  have fin : ∀ {φ' : Phi} {S' : St} {w' : World} {u : Upd}, K u → u.tw = oa.take.map (fun t => (t, V.dead)) ++ (match o.dst with | some d => [(d, V.tup [])] | none => []) → S' = { S with hp := (S.apply u).hp } → u.bw = none →
      FRs φ lam perm S' a w'.heap → Evo w.heap perm w'.heap perm → S.hp.length ≤ S'.hp.length → w'.os = w.os → w'.tape = w.tape → w'.output = w.output →
      (execOp a.eval o).run P w = .ok (.value (.tuple #[])) w' → Does P o a w (R0 φ perm S a w o K) := by
    intro φ' S' w' u hu htw hS hbw hF hE hlen h1 h2 h3 hrun
    refine .inl ⟨_, w', hrun, u, hu, ?_⟩
    have hres := hF.result oa.take o.dst (v := .tup []) (x := .tuple #[]) (VR.tup (fun _ => undef) rfl (fun i hi => by simp at hi) (fun i v hv => by simp at hv)) (.inr fun _ _ _ => by unfold Rt; trivial)
    obtain ⟨perm', g1, g2⟩ := hres
    have hap : S.apply u = { S' with tm := ((oa.take.map fun t => (t, V.dead)) ++ (match o.dst with | some d => [(d, V.tup [])] | none => [])).foldl (fun tm p => tm.set p.1 p.2) S'.tm } := by
      subst hS
      simp only [St.apply, hbw, htw]
    rw [hap]
    exact ⟨⟨φ, lam, perm', g1, hE.trans g2, fun _ _ => rfl, fun _ _ _ h => h⟩, hlen, h1, h2, h3⟩
  split at hK
  · rename_i el kk k r hs hargs
    obtain ⟨x, rfl, hvx⟩ := args_one hargs
    obtain ⟨hx, -⟩ := h.ev oa.take (E.kOf t0) x
    rw [← hvx] at hx
    obtain ⟨ht, -⟩ : P.underlying t0 = some (.slice el) ∧ _ := by have := (TIok.sh' hE.ok hs (by simp)).sh; rw [hs] at this; exact this
    refine fin (φ' := φ) (w' := w) hK rfl rfl rfl h (Evo.refl _ _) (Nat.le_refl _) rfl rfl rfl (run_builtin hop ?_)
    rcases hx.sl with ⟨-, e⟩ | ⟨b, off, cap, e, -⟩ <;> simp [builtin, Builtin.clear_, h0, rU ht, e]
  · rename_i el kk g ver q n hs hargs
    obtain ⟨x, rfl, hvx⟩ := args_one hargs
    obtain ⟨hx, -⟩ := h.ev oa.take (E.kOf t0) x
    rw [← hvx] at hx
    obtain ⟨ht, inf, hinf, hkk⟩ : P.underlying t0 = some (.slice el) ∧ ∃ inf, P.info? el = some inf ∧ inf.size = kk := by have := (TIok.sh' hE.ok hs (by simp)).sh; rw [hs] at this; exact this
    split at hK
    · rename_i k cs ver' hg
      split at hK
      · rename_i hc
        obtain ⟨rfl, rfl, hok, hfit, hn0⟩ := hc
        obtain ⟨inf', hinf', hsz, hby, z, hz, hzr, hzl, -⟩ := (hE.ok el hok).info
        have hii : inf = inf' := Option.some.inj (hinf.symm.trans hinf')
        subst hii
        subst hkk
        obtain ⟨r, off, cap, arr, elem, N, v1, v2, hp, v4, v5, v6, v7, v8⟩ := h.hr.vecs g _ cs ver hg
        obtain ⟨r2, off2, cap2, k2, w2, hcap, e⟩ := VR.gsI hx
        have v1' : φ.hd g ver = some (r, off, cap, inf.size) := v1
        have w2' : φ.hd g ver = some (r2, off2, cap2, k2) := w2
        rw [v1'] at w2'; cases w2'
        have hNk : cs.length ≤ cap * inf.size := by rw [v6]; exact Nat.mul_le_mul_right _ v7
        have har : AR (mkC φ S.hp.length perm w.heap) (List.replicate n (E.ti el).zero).flatten (Builtin.zeroCells z.cells n) := by
          have := replicate_ar (C := mkC φ S.hp.length perm w.heap) hzr n
          unfold Builtin.zeroCells
          rw [hzr.len]; rw [hzr.len] at this; exact this
        have hrl : (List.replicate n (E.ti el).zero).flatten.length = n * inf.size := by simp [hzl, hsz]
        have hzl2 : (Builtin.zeroCells z.cells n).toList.length = n * inf.size := by rw [← hrl, ← har.size]; simp
        rw [Nat.add_mul] at hfit
        obtain ⟨hrow', hsz'⟩ := v8.store (q := q * inf.size) har (by omega) (by omega)
        have hst := run_storeCells_at P r (off + q * inf.size) elem (Builtin.zeroCells z.cells n).toList 0 arr w v4 (by omega) har.one
        simp only [Nat.add_zero] at hst
        generalize hrow : (arr.toList.take (off + q * inf.size) ++ (Builtin.zeroCells z.cells n).toList ++ arr.toList.drop (off + q * inf.size + (Builtin.zeroCells z.cells n).toList.length)).toArray = row at hst hrow' hsz'
        have hheap := setRow_heap' (cs := row) v4
        have hlt := lt_of_some v4
        have ho' : ∀ q', q' ≠ r → (w.heap.setIfInBounds r (.cells row elem (0, 0)))[q']? = w.heap[q']? ∧ perm q' = perm q' := fun q' hq' => ⟨by rw [set_get hlt, if_neg (Ne.symm hq')], rfl⟩
        have hE' : Evo w.heap perm (w.heap.setIfInBounds r (.cells row elem (0, 0))) perm :=
          Evo.at (by simp) ho' hp (by simp) (fun o v hi _ => by rw [imm_zero hp] at hi; cases hi) (by
            rw [blockSize_cells v4, blockSize_cells (M := w.heap.setIfInBounds _ _) (by rw [set_get hlt, if_pos rfl]), hsz']; exact Nat.le_refl _)
        obtain ⟨hw1, hw2⟩ := h.wrVec (cs' := setRange cs (q * inf.size) (List.replicate n (E.ti el).zero).flatten) (N' := N) hg v1' v4 hsz'.symm (by rw [setRange_len]; exact v6) v7 (hrow'.mono (hE'.le (fun _ _ => rfl) (Nat.le_refl _)))
        rw [← hheap] at hw1 hw2
        refine fin (φ' := φ) (w' := w.setRow r row) hK rfl rfl rfl hw1 hw2 (by simp [St.apply]) rfl rfl rfl (run_builtin hop ?_)
        match n, hn0 with
        | n + 1, _ => simp [builtin, Builtin.clear_, h0, rU ht, e, rZ hinf hz, hst]
      · exact hK.elim
    · exact hK.elim
  · exact hK.elim
end
end Go.Hx

/-
  Hx: range over a map that is empty.
-/
namespace Go.Hx
open Go

section
variable {P : Program} {E : Env} [Glob] {φ : Phi} {lam : Nat → Nat} {perm : Perm} {S : St} {a : Act} {w : World} {o : Oper} {K : Upd → Prop}

theorem FRs.addEit {M : Mem} (h : FRs φ lam perm S a M) {r m clock clock' : Nat} {seen : Array Nat} (hm : m < S.hp.length) (hp : perm r = some (.hb S.hp.length, 0))
    (hM : M[r]? = some (.mapIter (some (φ m)) clock seen clock')) : FRs (φ.upd S.hp.length r) lam perm { S with hp := S.hp ++ [.eit m] } a M := by
  have hφ : ∀ b, b < S.hp.length → (φ.upd S.hp.length r) b = φ b := fun b hb => by simp [Phi.upd, Nat.ne_of_lt hb]
  have hC : (mkC φ S.hp.length perm M).le (mkC (φ.upd S.hp.length r) (S.hp ++ [HObj.eit m]).length perm M) :=
    mkC_le hφ (by simp) (fun _ _ _ h h' => ⟨h, h'⟩) (fun _ => Nat.le_refl _)
  have old : ∀ {b : Nat} {x : HObj}, (S.hp ++ [HObj.eit m])[b]? = some x → S.hp[b]? = some x ∨ (b = S.hp.length ∧ x = .eit m) := fun {b x} hb => by
    rcases Nat.lt_or_ge b S.hp.length with hlt | hge
    · rw [List.getElem?_append_left hlt] at hb; exact .inl hb
    · rw [List.getElem?_append_right hge] at hb
      rcases Nat.lt_or_ge S.hp.length b with h' | h'
      · rw [List.getElem?_eq_none (by simp; omega)] at hb; cases hb
      · have : b = S.hp.length := by omega
        subst this
        simp at hb; exact .inr ⟨rfl, hb.symm⟩
  refine ⟨⟨fun b' cs1 hb' => ?_, fun b' ar' es hb' => ?_, fun b' k' cs1 ver1 hb' => ?_, fun b' m' hb' => ?_, fun g' ver' hg => ?_⟩, fun s1 cs1 hs1 => ?_, fun t v hv => ?_, h.len, h.defers, h.fresh, h.gl⟩
  · rcases old hb' with hq | ⟨-, hq⟩
    · have hlt := hlt_of_some hq
      obtain ⟨h1, arr1, elem1, h2, h3⟩ := h.hr.cells b' cs1 hq
      exact ⟨by show perm ((φ.upd S.hp.length r) b') = _; rw [hφ b' hlt]; exact h1, arr1, elem1, by show M[(φ.upd S.hp.length r) b']? = _; rw [hφ b' hlt]; exact h2, h3.mono hC fun i v x _ hr => hr⟩
    · cases hq
  · rcases old hb' with hq | ⟨-, hq⟩
    · have hlt := hlt_of_some hq
      obtain ⟨h1, ents, clock, h2, h3⟩ := h.hr.maps b' ar' es hq
      exact ⟨by show perm ((φ.upd S.hp.length r) b') = _; rw [hφ b' hlt]; exact h1, ents, clock, by show M[(φ.upd S.hp.length r) b']? = _; rw [hφ b' hlt]; exact h2, h3.mono hC⟩
    · cases hq
  · rcases old hb' with hq | ⟨-, hq⟩
    · obtain ⟨r1, off1, cap1, arr1, elem1, N1, g1, g2, g3, g4, g5, g6, g7, g8⟩ := h.hr.vecs b' k' cs1 ver1 hq
      exact ⟨r1, off1, cap1, arr1, elem1, N1, g1, g2, g3, g4, g5, g6, g7, g8.mono hC⟩
    · cases hq
  · rcases old hb' with hq | ⟨rfl, hq⟩
    · have hlt := hlt_of_some hq
      obtain ⟨h0, h1, c1, c2, c3, h2⟩ := h.hr.eits b' m' hq
      have h0' : m' < S.hp.length := h0
      exact ⟨by simp [mkC]; omega, by show perm ((φ.upd S.hp.length r) b') = _; rw [hφ b' hlt]; exact h1, c1, c2, c3, by
        show M[(φ.upd S.hp.length r) b']? = some (.mapIter (some ((φ.upd S.hp.length r) m')) _ _ _); rw [hφ b' hlt, hφ m' h0']; exact h2⟩
    · cases hq
      exact ⟨by simp [mkC]; omega, by show perm ((φ.upd S.hp.length r) S.hp.length) = _; rw [Phi.upd_self]; exact hp, clock, seen, clock', by
        show M[(φ.upd S.hp.length r) S.hp.length]? = some (.mapIter (some ((φ.upd S.hp.length r) m)) _ _ _); rw [Phi.upd_self, hφ m hm]; exact hM⟩
  · exact h.hr.hdlt g' ver' (by simp [mkC] at hg ⊢; omega)
  · obtain ⟨h1, arr1, elem1, h2, h3⟩ := h.br s1 cs1 hs1
    exact ⟨h1, arr1, elem1, h2, h3.mono hC fun i v x _ hr => hr⟩
  · exact (h.tm t v hv).keep hC (fun hr => hr) (fun _ _ _ _ _ => rfl) (fun s cs hs => ⟨rfl, cs, hs, Nat.le_refl _⟩)

theorem s_range {oa : OA} (hE : EnvE P E) (h : FRs φ lam perm S a w.heap) {t : Nat} {x : Operand} (hop : o.op = .range t x)
    (hK : (match (E.ti t).sh, evO S.tm oa.take 0 x, o.dst with
     | .map _ _, .map r, some d => (match S.hp[r]? with
       | some (.map _ []) => .ok { tw := oa.take.map (fun t => (t, V.dead)) ++ [(d, .eit S.hp.length)], hw := some (S.hp ++ [.eit r]) }
       | _ => .fail)
     | _, _, _ => .fail : Out).wp K) : Does P o a w (R0 φ perm S a w o K) := by
  obtain ⟨hx, -⟩ := h.ev oa.take 0 x
  split at hK
  · rename_i kt el r d hs hv hd
    rw [hv] at hx
    have ht := (TIok.sh' hE.ok hs (by simp)).sh
    rw [hs] at ht
    split at hK
    · rename_i ar hr
      obtain ⟨-, ents, clock, hM, hmr⟩ := h.hr.maps r _ _ hr
      have hM' : w.heap[φ r]? = some (.map ents clock) := hM
      have em : a.eval x = .map (some (φ r)) := (VR.mapI hx).1
      have hrl := hlt_of_some hr
      have hrun : (execOp a.eval o).run P w = .ok (.value (.pointer (some ⟨w.heap.size, 0, none⟩))) (addB w (.mapIter (some (φ r)) clock #[] clock)) := by
        simp [execOp, hop, Instr.range, rU ht, em, getObj_run hM', newObj, Sem.run, addB]
      have hp := h.pushed (.mapIter (some (φ r)) clock #[] clock) (perm' := ownP perm w.heap.size (.hb S.hp.length) 0) (fun r hr => by simp [ownP, Nat.ne_of_lt hr]) (fun r hr => by
          simp only [ownP]; rw [if_neg (by omega)]; exact h.fresh r (by omega))
      have hE2 : Evo w.heap perm (w.heap.push (.mapIter (some (φ r)) clock #[] clock)) (ownP perm w.heap.size (.hb S.hp.length) 0) := Evo.push _ (fun r hr => by simp [ownP, Nat.ne_of_lt hr])
      have hadd := hp.addEit (r := w.heap.size) (m := r) hrl (by simp [ownP]) push_last
      refine .inl ⟨_, _, hrun, _, hK, ?_⟩
      rw [hd]
      refine ⟨⟨_, _, _, result_tw hadd oa.take d (v := .eit S.hp.length) ?_ (fun _ _ _ => by unfold Rt; trivial), hE2, fun b hb => by simp [Phi.upd, Nat.ne_of_lt hb], fun _ _ _ h => h⟩, by simp [St.apply], rfl, rfl, rfl⟩
      have := VR.eit (C := mkC (φ.upd S.hp.length w.heap.size) (S.hp ++ [HObj.eit r]).length (ownP perm w.heap.size (.hb S.hp.length) 0) (w.heap.push (.mapIter (some (φ r)) clock #[] clock))) (b := S.hp.length) (by simp [mkC])
      simpa [mkC, OV] using this
    · exact hK.elim
  · exact hK.elim

theorem s_next {oa : OA} (h : FRs φ lam perm S a w.heap) {x : Operand} (hop : o.op = .next x false)
    (hK : (match evO S.tm oa.take 0 x with
     | .eit b => (match S.hp[b]? with
       | some (.eit m) => (match S.hp[m]? with
         | some (.map _ []) => .val o.dst oa.take (.tup [.ff])
         | _ => .fail)
       | _ => .fail)
     | _ => .fail : Out).wp K) : Does P o a w (R0 φ perm S a w o K) := by
  obtain ⟨hx, -⟩ := h.ev oa.take 0 x
  split at hK
  · rename_i b hv
    rw [hv] at hx
    split at hK
    · rename_i m hb
      split at hK
      · rename_i ar hm
        obtain ⟨-, ents, clock, hM, hmr⟩ := h.hr.maps m _ _ hm
        have hM' : w.heap[φ m]? = some (.map ents clock) := hM
        have hents : ents = #[] := Array.eq_empty_of_size_eq_zero (by rw [hmr.size]; rfl)
        subst hents
        obtain ⟨-, -, c1, seen, c2, hI⟩ := h.hr.eits b m hb
        have hI' : w.heap[φ b]? = some (.mapIter (some (φ m)) c1 seen c2) := hI
        have ex : a.eval x = .pointer (some ⟨φ b, 0, none⟩) := by
          have hx' : VR (mkC φ S.hp.length perm w.heap) (.eit b) (a.eval x) := hx
          generalize a.eval x = y at hx'
          cases hx'; rfl
        have hg : (getObj (φ b)).run P w = .ok (.mapIter (some (φ m)) c1 seen c2) w := by simp [getObj, Sem.run, hI']
        refine does_val h (x := .tuple #[.bool false]) ?_ (v := .tup [.ff]) ?_ (.inr fun _ _ _ => by unfold Rt; trivial) hK
        · simp [execOp, hop, ex, Instr.next, hg, getObj_run hM', choose, Sem.run, Question.forced, Question.cut]
        · refine VR.tup (fun _ => .bool false) rfl (fun i hi => ?_) (fun i v hv => ?_)
          · simp at hi; subst hi; rfl
          · cases i with
            | zero => simp at hv; subst hv; exact VR.ff
            | succ i => simp at hv
      · exact hK.elim
    · exact hK.elim
  · exact hK.elim
end
end Go.Hx

/-
  Hx, part 24: every operation but calls.
-/
namespace Go.Hx
open Go

section
variable {P : Program} {E : Env} [Glob] {φ : Phi} {lam : Nat → Nat} {perm : Perm} {S : St} {a : Act} {w : World} {o : Oper} {K : Upd → Prop}

theorem step_sound (oa : OA) (hE : EnvM P E) (h : FRs φ lam perm S a w.heap) (hK : (stepOut E oa o S.tm S.box S.hp).wp K) : Does P o a w (R0 φ perm S a w o K) := by
  have hE1 : EnvE P E := hE.toEnvE
  unfold stepOut at hK
  dsimp only at hK
  split at hK
  case h_1 x hop => exact s_move h (.inl hop) hK
  case h_2 x hop => exact s_move h (.inr hop) hK
  case h_3 c x y hop => exact s_pick h hop hK
  case h_4 t hop => exact s_alloc hE1 h hop hK
  case h_5 t x hop => exact s_box h hop hK
  case h_6 t parts hop => exact s_build hE1 h hop hK
  case h_7 t n parts hop => exact s_buildSlice hE1 h hop hK
  case h_8 t x hop => exact s_load hE1 h hop hK
  case h_9 t x y hop =>
    split at hK
    · exact hK.elim
    · rename_i hd; exact s_store hE1 h hop (by simpa using hd) hK
  case h_10 x hop => exact s_nilCheck h hop hK
  case h_11 op t x y yt hop =>
    split at hK
    · exact s_binOp hE1 h hop hK
    · exact hK.elim
  case h_12 op t x hop => exact s_unOp h hop hK
  case h_13 src dt x hop => exact s_convert hE1 h hop hK
  case h_14 f first captured hop => exact s_makeFunc h hop hK
  case h_15 t hop => exact s_makeMap h hop hK
  case h_16 t l c hop => exact s_makeSlice hE1 h hop hK
  case h_17 t x lo hi hop => exact s_slice hE1 h hop hK
  case h_18 t x lo hi mx hop => exact s_slice3 hE1 h hop hK
  case h_19 t x f hop => exact s_fieldAddr hE1.ok h hop hK
  case h_20 t x f hop => exact s_field hE1.ok h hop hK
  case h_21 t x i hop => exact s_indexAddr hE1.ok h hop hK
  case h_22 t x i hop => exact s_index hE1 h hop hK
  case h_23 t m k ok hop => exact s_lookup hE h hop hK
  case h_24 t m k v hop =>
    split at hK
    · exact hK.elim
    · rename_i hd; exact s_mapUpdate hE h hop (by simpa using hd) hK
  case h_25 t m k hop => exact s_mapEntry hE h hop hK
  case h_26 t m s v hop =>
    split at hK
    · exact hK.elim
    · rename_i hd; exact s_entryStore h hop (by simpa using hd) hK
  case h_27 x i hop => exact s_extract h hK hop
  case h_28 b args ats hop =>
    split at hK
    · rename_i t0 h0
      cases b
      case len => exact s_len hE1 h hop h0 hK
      case append => exact s_append hE1 h hop h0 hK
      case max => exact s_maxmin h true rfl hop hK
      case min => exact s_maxmin h false rfl hop hK
      case clear => exact s_clear hE1 h hop h0 hK
      case delete => exact s_delete hE h hop h0 hK
      all_goals exact (False.elim hK)
    · exact hK.elim
  case h_29 t x hop => exact s_range hE1 h hop hK
  case h_30 x hop => exact s_next h hop hK
  case h_31 => exact hK.elim
end
end Go.Hx

/-
  Hx: the engine. Deterministic: a run of a function's body on abstract values.
-/
namespace Go.Hx
open Go

/-- where a stretch of code ends -/
inductive Ex where
  | normal
  | exit (id : Nat)
  | ret

/-- the remarks of a region: its operations in the order in which they are run here, each with its remark -/
structure Marks where
  at_ : Nat → Nat → List (Nat × OA)

/-- may it be handed over? -/
def argOk : V → Bool
  | .lptr .. | .lmsl .. | .dead | .stamp .. | .ment .. | .tup _ => false
  | _ => true

section
variable [Glob] (P : Program) (E : Env) (A : Marks)

/-- is an operation wanted? (none: it cannot be told) -/
def wantedV (ops : Array Oper) (o : Oper) (S : St) : Option Bool :=
  match o.guard with
  | none => some true
  | some (j, want) =>
    match (ops[j]?).bind (·.dst) with
    | none => none
    | some d =>
      match (getT S.tm d).bool? with
      | some b => some (b == want)
      | none => match getT S.tm d with
        | .tup [] => some false
        | _ => none

def paramK (f i : Nat) : Nat := match P.funcs[f]? with
  | some fn => E.kOf (fn.params.getD i 0)
  | none => 0

def argsV (tm : List V) (take : List Nat) (f : Nat) : Nat → List Operand → List V
  | _, [] => []
  | i, x :: r => (evO tm take (paramK P E f i) x).strip :: argsV tm take f (i + 1) r

/-- a call's end: its value is laid -/
def St.put (S : St) (take : List Nat) (dst : Option Nat) (v : V) (hp : Heap) : St :=
  { tm := (take.map (fun t => (t, V.dead)) ++ (match dst with | some d => [(d, v)] | none => [])).foldl (fun tm p => tm.set p.1 p.2) S.tm, bx := S.bx, hp }

/-- one operation; calls by 'call' -/
def opRun (call : Nat → List V → Heap → Option (V × Heap)) (oa : OA) (o : Oper) (S : St) : Option St :=
  match o.op with
  | .call { callee := .value x, args, .. } =>
    match evO S.tm oa.take 0 x with
    | .clo f fst cs =>
      let vs := (fst ++ argsV P E S.tm oa.take f fst.length args.toList ++ cs).map V.strip
      if vs.all argOk && noSt S.tm then (call f vs S.hp).map fun r => S.put oa.take o.dst r.1 r.2 else none
    | _ => none
  | _ => ((stepOut E oa o S.tm S.box S.hp).run).map S.apply

/-- a region's operations, in the order of the remarks -/
def opsRun (call : Nat → List V → Heap → Option (V × Heap)) (ops : Array Oper) : List (Nat × OA) → St → Option St
  | [], S => some S
  | (i, oa) :: r, S =>
    match ops[i]? with
    | none => none
    | some o =>
      match wantedV ops o S with
      | none => none
      | some true => (opRun P E call oa o S).bind (opsRun call ops r)
      | some false => opsRun call ops r (match o.dst with | some d => { S with tm := S.tm.set d (.tup []) } | none => S)

/-- a region; drawn: in an order of which all others answer the same -/
def regRun (call : Nat → List V → Heap → Option (V × Heap)) (ops : Array Oper) (_draw : Bool) (l : List (Nat × OA)) (S : St) : Option St := opsRun P E call ops l S

def resOne (S : St) : ResultVar → Option V
  | .tmp t => some (getT S.tm t).strip
  | .cell a t =>
    if (E.ti t).ok then
      match getT S.tm a with
      | .lptr s o => (S.box s).bind fun cs => loadV (E.ti t) cs o
      | .ptr b o => match S.hp[b]? with | some (.cells cs) => loadV (E.ti t) cs o | _ => none
      | _ => none
    else none

def resL (S : St) : List ResultVar → Option (List V)
  | [] => some []
  | r :: l =>
    match resOne E S r with
    | some v => if argOk v then (resL S l).map fun vs => v :: vs else none
    | none => none

def resV (fn : Func) (S : St) : Option V :=
  match resL E S fn.results.toList with
  | none => none
  | some [v] => some v
  | some vs => some (.tup vs)

/-- code, by fuel -/
def codeRun (call : Nat → List V → Heap → Option (V × Heap)) (f : Nat) : Nat → Code → St → Option (Ex × St)
  | 0, _, _ => none
  | n + 1, c, S =>
    match c with
    | .skip => some (.normal, S)
    | .region id ops d => (regRun P E call ops d (A.at_ f id) S).map fun S' => (.normal, S')
    | .seq x y =>
      match codeRun call f n x S with
      | some (.normal, S') => codeRun call f n y S'
      | r => r
    | .cond x a b =>
      match evO S.tm [] 0 x with
      | .tt => codeRun call f n a S
      | .ff => codeRun call f n b S
      | .raw (.bool true) => codeRun call f n a S
      | .raw (.bool false) => codeRun call f n b S
      | _ => none
    | .block id x =>
      match codeRun call f n x S with
      | some (.exit id', S') => if id' = id then some (.normal, S') else some (.exit id', S')
      | r => r
    | .loop x =>
      match codeRun call f n x S with
      | some (.normal, S') => codeRun call f n (.loop x) S'
      | r => r
    | .exit id => some (.exit id, S)
    | .ret => some (.ret, S)
    | _ => none

/-- a call, by fuel (its depth) -/
def callRun : Nat → Nat → List V → Heap → Option (V × Heap)
  | 0, _, _, _ => none
  | n + 1, f, vs, hp =>
    match P.funcs[f]? with
    | none => none
    | some fn =>
      match fn.body with
      | none => none
      | some c =>
        match codeRun P E A (callRun n) f 100000 c { tm := vs ++ List.replicate (fn.ntmps - vs.length) .dead, bx := [], hp } with
        | some (.normal, S) | some (.ret, S) => (resV E fn S).map fun v => (v, S.hp)
        | _ => none
end
end Go.Hx

/-
  Hx: from what an operation does to the model's rule for it.
-/
namespace Go.Hx
open Go

section
variable [Glob] {P : Program} {E : Env} {φ : Phi} {lam : Nat → Nat} {perm : Perm} {S : St} {a : Act} {w : World} {o : Oper}

/-- an operation that is no call of a function: run here, it runs there -/
theorem stepRun_wp (oa : OA) (hE : EnvM P E) (h : FRs φ lam perm S a w.heap) {u : Upd} (hr : (stepOut E oa o S.tm S.box S.hp).run = some u) {next : Act → World → Prop} {Q : Exit → Act → World → Prop}
    (hn : ∀ a' w', Nx φ perm S w (S.apply u) a' w' → next a' w') : o.wp P a w next Q := by
  have hK := Out.wp_of_run (fun v => v = u) _ u hr rfl
  have := step_sound (K := fun v => v = u) oa hE h hK
  unfold Oper.wp
  rcases this with ⟨x, w', hrun, v, hv, hnx⟩ | ⟨w', hrun, v, hv, hnx⟩ | hf
  · rw [hrun]; subst hv; exact hn _ _ hnx
  · rw [hrun]; subst hv; exact hn _ _ hnx
  · exact hf.elim
end
end Go.Hx

/-
  Hx: into a function, and back.
-/
namespace Go.Hx
open Go

/-- a frame's own blocks, set aside -/
def aside (perm : Perm) : Perm := fun r => match perm r with
  | some (.hb b, lo) => some (.hb b, lo)
  | some (.sp (.h b i), lo) => some (.sp (.h b i), lo)
  | some (_, lo) => some (.other, lo)
  | none => none

theorem aside_imm (perm : Perm) (r o : Nat) : imm (aside perm) r o = imm perm r o := by
  unfold imm aside
  cases h : perm r with
  | none => rfl
  | some x =>
    obtain ⟨hd, lo⟩ := x
    cases hd with
    | sp p => cases p <;> rfl
    | _ => rfl

theorem aside_hb {perm : Perm} {r b lo : Nat} (h : perm r = some (.hb b, lo)) : aside perm r = some (.hb b, lo) := by
  unfold aside; rw [h]

theorem aside_rt {perm : Perm} {M : Mem} {b i : Nat} {v : V} {x : Value} (h : Rt perm M (.h b i) v x) : Rt (aside perm) M (.h b i) v x := by
  unfold Rt at h ⊢
  split
  · intro h1 h2
    obtain ⟨g1, g2⟩ := h h1 h2
    exact ⟨by unfold aside; rw [g1], g2⟩
  · trivial

section
variable [Glob] {P : Program} {E : Env} {φ : Phi} {lam : Nat → Nat} {perm : Perm} {S : St} {a : Act} {M : Mem}

omit [Glob] in
theorem aside_le (φ : Phi) (nb : Nat) (perm : Perm) (M : Mem) : (mkC φ nb perm M).le (mkC φ nb (aside perm) M) :=
  mkC_le (fun _ _ => rfl) (Nat.le_refl _) (fun r o v hi hc => ⟨by rw [aside_imm]; exact hi, hc⟩) (fun _ => Nat.le_refl _)

/-- into a function: its arguments come without rights -/
theorem FRs.enter (h : FRs φ lam perm S a M) (vs : List V) (args : Array Value) (n : Nat) (hsz : args.size = vs.length)
    (hvs : ∀ (i : Nat) v, vs[i]? = some v → ∃ x, args[i]? = some x ∧ argOk v = true ∧ VR (mkC φ S.hp.length perm M) v x ∧ ∀ perm' M' p, Rt perm' M' p v x) :
    FRs φ (fun _ => 0) (aside perm) { tm := vs ++ List.replicate n .dead, bx := [], hp := S.hp } { tmps := args ++ Array.replicate n undef, defers := [] } M := by
  have hC := aside_le φ S.hp.length perm M
  refine ⟨⟨fun b cs hb => ?_, fun b ar es hb => ?_, fun b k cs ver hb => ?_, fun b m hb => ?_, h.hr.hdlt⟩, fun s cs hs => by simp [St.box, look] at hs, fun t v hv => ?_, by simp [hsz], rfl, fun r hr => by unfold aside; rw [h.fresh r hr], ?_⟩
  · obtain ⟨h1, arr, elem, h2, h3⟩ := h.hr.cells b cs hb
    exact ⟨aside_hb h1, arr, elem, h2, h3.mono hC fun i v x _ hr => aside_rt hr⟩
  · obtain ⟨h1, ents, clock, h2, h3⟩ := h.hr.maps b ar es hb
    exact ⟨aside_hb h1, ents, clock, h2, h3.mono hC⟩
  · obtain ⟨r, off, cap, arr, elem, N, h1, h2, h3, h4, h5, h6, h7, h8⟩ := h.hr.vecs b k cs ver hb
    exact ⟨r, off, cap, arr, elem, N, h1, h2, aside_hb h3, h4, h5, h6, h7, h8.mono hC⟩
  · obtain ⟨h0, h1, h2⟩ := h.hr.eits b m hb
    exact ⟨h0, aside_hb h1, h2⟩
  · rcases Nat.lt_or_ge t vs.length with hlt | hge
    · rw [List.getElem?_append_left hlt] at hv
      obtain ⟨x, hx, hok, hvr, hr⟩ := hvs t v hv
      have : (args ++ Array.replicate n undef).getD t undef = x := by
        rw [Array.getD_eq_getD_getElem?, Array.getElem?_append_left (by omega), hx]; rfl
      rw [this]
      exact TV.of (hvr.mono hC).ov (hr _ _ _)
    · rw [List.getElem?_append_right hge] at hv
      have : v = .dead := by
        rw [List.getElem?_replicate] at hv
        split at hv
        · exact (Option.some.inj hv).symm
        · cases hv
      subst this; trivial
  · intro g i v hv
    obtain ⟨x, h1, h2, h3, h4⟩ := h.gl g i v hv
    exact ⟨x, h1, h2, by rw [aside_imm]; exact h3, h4⟩
end
end Go.Hx

/-
  Hx: back from a function.
-/
namespace Go.Hx
open Go

/-- is it a frame's own? -/
def own : Option (Holder × Nat) → Bool
  | some (.lb _, _) | some (.other, _) | some (.sp (.t _), _) | some (.sp (.b _ _), _) | some (.sp .ret, _) => true
  | _ => false

/-- what a callee leaves of its own belongs to nobody -/
def clean : Option (Holder × Nat) → Option (Holder × Nat)
  | some (.hb b, lo) => some (.hb b, lo)
  | some (.sp (.h b i), lo) => some (.sp (.h b i), lo)
  | _ => none

def merge (perm perm' : Perm) : Perm := fun r => if own (perm r) then perm r else clean (perm' r)

theorem own_aside {perm : Perm} {r : Nat} (h : own (perm r) = true) : ∃ lo, aside perm r = some (.other, lo) := by
  unfold aside
  cases hp : perm r with
  | none => rw [hp] at h; cases h
  | some x =>
    obtain ⟨hd, lo⟩ := x
    rw [hp] at h
    cases hd with
    | sp p => cases p <;> first | exact ⟨lo, rfl⟩ | (simp [own] at h)
    | hb b => simp [own] at h
    | _ => exact ⟨lo, rfl⟩

theorem clean_imm {p : Option (Holder × Nat)} {o : Nat} (h : (match p with | none => true | some (_, lo) => decide (o < lo)) = true) : (match clean p with | none => true | some (_, lo) => decide (o < lo)) = true := by
  cases p with
  | none => rfl
  | some x =>
    obtain ⟨hd, lo⟩ := x
    cases hd with
    | sp q => cases q <;> first | rfl | exact h
    | hb b => exact h
    | _ => rfl

section
variable [Glob] {φ φ' : Phi} {lam lam' : Nat → Nat} {perm perm' : Perm} {S S' : St} {a a' : Act} {M M' : Mem}

theorem merge_evo (h : FRs φ lam perm S a M) (hE : Evo M (aside perm) M' perm') : Evo M perm M' (merge perm perm') := by
  refine ⟨hE.size, fun r hr hp => ?_, fun r o v hi hc => ?_, hE.bs⟩
  · have hk : aside perm r = none ∨ ∃ lo, aside perm r = some (.other, lo) := by
      rcases hp with hp | ⟨lo, hp⟩
      · left; unfold aside; rw [hp]
      · right; exact ⟨lo, by unfold aside; rw [hp]⟩
    obtain ⟨h1, h2⟩ := hE.keep r hr hk
    refine ⟨h1, ?_⟩
    unfold merge
    rcases hp with hp | ⟨lo, hp⟩
    · have : aside perm r = none := by unfold aside; rw [hp]
      rw [hp, h2, this]; rfl
    · rw [hp]; rfl
  · obtain ⟨h1, h2⟩ := hE.imm r o v (by rw [aside_imm]; exact hi) hc
    refine ⟨?_, h2⟩
    unfold imm merge
    by_cases ho : own (perm r) = true
    · rw [if_pos ho]; exact hi
    · rw [if_neg ho]; exact clean_imm h1

/-- a block that the callee's state holds is none of the caller's -/
theorem not_own (h : FRs φ lam perm S a M) (hE : Evo M (aside perm) M' perm') {r lo : Nat} {hd : Holder} (hp : perm' r = some (hd, lo)) (hne : hd ≠ .other) : own (perm r) = false := by
  cases ho : own (perm r) with
  | false => rfl
  | true =>
    obtain ⟨lo', ha⟩ := own_aside ho
    have hr : r < M.size := by
      rcases Nat.lt_or_ge r M.size with h' | h'
      · exact h'
      · rw [h.fresh r h'] at ho; cases ho
    have := (hE.keep r hr (.inr ⟨lo', ha⟩)).2
    rw [hp, ha] at this
    simp at this
    exact absurd this.1 hne

theorem FRs.back (h : FRs φ lam perm S a M) (hns : noSt S.tm = true) (h' : FRs φ' lam' perm' S' a' M') (hE : Evo M (aside perm) M' perm') (hφ : ∀ b, b < S.hp.length → φ' b = φ b) (hhd : ∀ g v x, φ.hd g v = some x → φ'.hd g v = some x) (hnb : S.hp.length ≤ S'.hp.length) :
    FRs φ' lam (merge perm perm') { S with hp := S'.hp } a M' ∧ Evo M perm M' (merge perm perm') ∧ (mkC φ' S'.hp.length perm' M').le (mkC φ' S'.hp.length (merge perm perm') M') := by
  have hEv := merge_evo h hE
  have hC : (mkC φ S.hp.length perm M).le (mkC φ' S'.hp.length (merge perm perm') M') := hEv.le hφ hnb hhd
  have hC' : (mkC φ' S'.hp.length perm' M').le (mkC φ' S'.hp.length (merge perm perm') M') := mkC_le (fun _ _ => rfl) (Nat.le_refl _) (fun r o v hi hc => by
    refine ⟨?_, hc⟩
    unfold imm merge
    by_cases ho : own (perm r) = true
    · rw [if_pos ho]
      obtain ⟨lo, ha⟩ := own_aside ho
      have hr : r < M.size := by
        rcases Nat.lt_or_ge r M.size with h1 | h1
        · exact h1
        · rw [h.fresh r h1] at ho; cases ho
      have hk := (hE.keep r hr (.inr ⟨lo, ha⟩)).2
      have : imm (aside perm) r o = true := by unfold imm; rw [← hk]; exact hi
      rw [aside_imm] at this; exact this
    · rw [if_neg ho]; exact clean_imm hi) (fun _ => Nat.le_refl _)
  have hcl : ∀ {r lo : Nat} {b : Nat}, perm' r = some (.hb b, lo) → merge perm perm' r = some (.hb b, lo) := fun hp => by
    unfold merge; rw [not_own h hE hp (by simp)]; simp [clean, hp]
  have hrt : ∀ {b i : Nat} {v : V} {x : Value}, Rt perm' M' (.h b i) v x → Rt (merge perm perm') M' (.h b i) v x := fun {b i v x} hr => by
    unfold Rt at hr ⊢
    split
    · intro h1 h2
      obtain ⟨g1, g2⟩ := hr h1 h2
      refine ⟨?_, g2⟩
      unfold merge; rw [not_own h hE g1 (by simp)]; simp [clean, g1]
    · trivial
  have hown : ∀ {p : Pos} {v : V} {x : Value}, (match p with | .h _ _ => False | _ => True) → Rt perm M p v x → Rt (merge perm perm') M' p v x := fun {p v x} hp hr => by
    unfold Rt at hr ⊢
    split
    · rename_i k es r a n cap
      intro h1 h2
      obtain ⟨g1, c, elem, g2, g3⟩ := hr h1 h2
      have ho : own (perm a.block) = true := by rw [g1]; cases p <;> first | rfl | exact hp.elim
      obtain ⟨lo, ha⟩ := own_aside ho
      have hM := (hE.keep _ (lt_of_some g2) (.inr ⟨lo, ha⟩)).1
      exact ⟨by unfold merge; rw [if_pos ho]; exact g1, c, elem, by rw [hM]; exact g2, g3⟩
    · trivial
  refine ⟨⟨⟨fun b cs hb => ?_, fun b ar es hb => ?_, fun b k cs ver hb => ?_, fun b m hb => ?_, h'.hr.hdlt⟩, fun s cs hs => ?_, fun t v hv => ?_, h.len, h.defers, fun r hr => ?_, GlOK.evo h.gl hEv⟩, hEv, hC'⟩
  · obtain ⟨h1, arr, elem, h2, h3⟩ := h'.hr.cells b cs hb
    exact ⟨hcl h1, arr, elem, h2, h3.mono hC' fun i v x _ hr => hrt hr⟩
  · obtain ⟨h1, ents, clock, h2, h3⟩ := h'.hr.maps b ar es hb
    exact ⟨hcl h1, ents, clock, h2, h3.mono hC'⟩
  · obtain ⟨r, off, cap, arr, elem, N, h1, h2, h3, h4, h5, h6, h7, h8⟩ := h'.hr.vecs b k cs ver hb
    exact ⟨r, off, cap, arr, elem, N, h1, h2, hcl h3, h4, h5, h6, h7, h8.mono hC'⟩
  · obtain ⟨h0, h1, h2⟩ := h'.hr.eits b m hb
    exact ⟨h0, hcl h1, h2⟩
  · obtain ⟨h1, arr, elem, h2, h3⟩ := h.br s cs hs
    have ho : own (perm (lam s)) = true := by rw [h1]; rfl
    obtain ⟨lo, ha⟩ := own_aside ho
    have hM := (hE.keep _ (lt_of_some h2) (.inr ⟨lo, ha⟩)).1
    exact ⟨by unfold merge; rw [if_pos ho]; exact h1, arr, elem, by rw [hM]; exact h2, h3.mono hC fun i v x _ hr => hown (by trivial) hr⟩
  · have hv' := h.tm t v hv
    have hnsv := List.all_eq_true.1 hns v (List.mem_of_getElem? hv)
    cases v <;> simp only [TV] at hv' ⊢ <;> try (first | exact hv' | (simp at hnsv; done))
    all_goals exact ⟨hv'.1.mono hC, hown (by trivial) hv'.2⟩
  · have hr1 : M.size ≤ r := Nat.le_trans hE.size hr
    unfold merge
    rw [h.fresh r hr1, h'.fresh r hr]; rfl
end
end Go.Hx

/-
  Hx: what is proved of a call.
-/
namespace Go.Hx
open Go

section
variable [Glob] (P : Program)

/-- the call of f on vs over hp answers v, and leaves hp' -/
def CallOK (f : Nat) (vs : List V) (hp : Heap) (v : V) (hp' : Heap) : Prop :=
  ∀ (φ : Phi) (perm : Perm) (args : Array Value) (w : World), FRs φ (fun _ => 0) perm { tm := vs, bx := [], hp } { tmps := args, defers := [] } w.heap →
    Calls P f args w fun e w' => match e with
      | .returned x => ∃ (φ' : Phi) (lam' : Nat → Nat) (perm' : Perm) (S' : St) (a' : Act), FRs φ' lam' perm' S' a' w'.heap ∧ S'.hp = hp' ∧ hp.length ≤ hp'.length ∧
          VR (mkC φ' hp'.length perm' w'.heap) v x ∧ (∀ q M p, Rt q M p v x) ∧ Evo w.heap perm w'.heap perm' ∧ (∀ b, b < hp.length → φ' b = φ b) ∧ (∀ g v x, φ.hd g v = some x → φ'.hd g v = some x) ∧
          w'.os = w.os ∧ w'.tape = w.tape ∧ w'.output = w.output
      | _ => False
end

section
variable [Glob] {φ : Phi} {lam : Nat → Nat} {perm : Perm} {S : St} {a : Act} {M : Mem}

/-- more tmps, of which nothing is known -/
theorem FRs.pad (h : FRs φ lam perm S a M) (n : Nat) : FRs φ lam perm { S with tm := S.tm ++ List.replicate n .dead } { a with tmps := a.tmps ++ Array.replicate n undef } M := by
  refine ⟨h.hr, h.br, fun t v hv => ?_, by simp [h.len], h.defers, h.fresh, h.gl⟩
  rcases Nat.lt_or_ge t S.tm.length with hlt | hge
  · rw [List.getElem?_append_left hlt] at hv
    have := h.tm t v hv
    have e : (a.tmps ++ Array.replicate n undef).getD t undef = a.tmps.getD t undef := by
      rw [Array.getD_eq_getD_getElem?, Array.getElem?_append_left (by rw [h.len]; exact hlt), ← Array.getD_eq_getD_getElem?]
    show TV _ _ _ _ _ t v ((a.tmps ++ Array.replicate n undef).getD t undef)
    rw [e]; exact this
  · rw [List.getElem?_append_right hge] at hv
    have : v = .dead := by
      rw [List.getElem?_replicate] at hv
      split at hv
      · exact (Option.some.inj hv).symm
      · cases hv
    subst this; trivial
end
end Go.Hx

/-
  Hx: a call, as an operation.
-/
namespace Go.Hx
open Go

def Enters (P : Program) (f : Nat) : Prop := ∃ fn, P.funcs[f]? = some fn ∧ (fn.name == "runtime.NumGoroutine") = false ∧ fn.body.isNone = false

section
variable [Glob] {P : Program} {E : Env} {φ : Phi} {lam : Nat → Nat} {perm : Perm} {S : St} {a : Act} {w : World} {o : Oper}

omit [Glob] in
theorem call_exec {x : Operand} {args : Array Operand} {ats : Array Nat} {f : Nat} {first captured : Array Value} (hop : o.op = .call { callee := .value x, args := args, argTypes := ats }) (hx : a.eval x = .func (.func f) first captured) (hent : Enters P f) :
    (execOp a.eval o).run P w = .ok (.enter f (first ++ args.map a.eval ++ captured)) w := by
  obtain ⟨fn, h1, h2, h3⟩ := hent
  simp [execOp, hop, resolve, Deferred.ofValue, hx, invoke, callFunc, program, Sem.run, Sem.run_bind, h1]
  simp_all
  intro hb
  rw [hb] at h3
  simp at h3

theorem callOp_wp (hE : EnvM P E) (h : FRs φ lam perm S a w.heap) {oa : OA} {x : Operand} {args : Array Operand} {ats : Array Nat} (hop : o.op = .call { callee := .value x, args := args, argTypes := ats }) {f : Nat} {vs : List V} {xs : Array Value}
    {first captured : Array Value} (hx : a.eval x = .func (.func f) first captured) (hent : Enters P f) (hns : noSt S.tm = true) (hxs : xs = first ++ args.map a.eval ++ captured) (hsz : xs.size = vs.length)
    (hvs : ∀ (i : Nat) v, vs[i]? = some v → ∃ y, xs[i]? = some y ∧ argOk v = true ∧ VR (mkC φ S.hp.length perm w.heap) v y ∧ ∀ perm' M' p, Rt perm' M' p v y)
    {v : V} {hp' : Heap} (hcall : CallOK P f vs S.hp v hp') {next : Act → World → Prop} {Q : Exit → Act → World → Prop}
    (hn : ∀ a' w', Nx φ perm S w (S.put oa.take o.dst v hp') a' w' → next a' w') : o.wp P a w next Q := by
  unfold Oper.wp
  rw [call_exec hop hx hent, ← hxs, Oper.upon_enter]
  have hin := h.enter vs xs 0 hsz hvs
  have hin' : FRs φ (fun _ => 0) (aside perm) { tm := vs, bx := [], hp := S.hp } { tmps := xs, defers := [] } w.heap := by simpa using hin
  refine Calls.mono (hcall φ (aside perm) xs w hin') fun e w' he => ?_
  cases e with
  | returned y =>
    obtain ⟨φ', lam', perm', S', a', hF, hS', hlen, hvr, hrt, hEv, hφ, hhd, h1, h2, h3⟩ := he
    subst hS'
    obtain ⟨hb, hEv2, hC⟩ := h.back hns hF hEv hφ hhd hlen
    obtain ⟨perm2, hres, hEv3⟩ := hb.result oa.take o.dst (v := v) (x := y) (hvr.mono hC).ov (.inr fun p M' q => hrt p M' q)
    refine hn _ _ ⟨⟨φ', lam, perm2, hres, hEv2.trans hEv3, hφ, hhd⟩, hlen, h1, h2, h3⟩
  | panicked c => exact he.elim
  | outgrown => exact he.elim
end
end Go.Hx

/-
  Hx: an operation of the engine, as the model's.
-/
namespace Go.Hx
open Go

section
variable [Glob] {P : Program} {E : Env} {φ : Phi} {lam : Nat → Nat} {perm : Perm} {S : St} {a : Act} {w : World} {o : Oper}

omit [Glob] in
theorem argOk_vr {C : Ctx} {M : Mem} {bx : Nat → Option (List V)} {v : V} {x : Value} (h : OV C M lam bx v x) (hm : argOk v = true) : VR C v x := by
  cases v <;> simp only [argOk] at hm <;> first | exact h | cases hm

/-- a list of values, one by one -/
def Each (R : V → Value → Prop) (L : List V) (xs : List Value) : Prop := L.length = xs.length ∧ ∀ (i : Nat) v, L[i]? = some v → ∃ y, xs[i]? = some y ∧ R v y

omit [Glob] in
theorem Each.append {R : V → Value → Prop} {L L' : List V} {xs xs' : List Value} (h : Each R L xs) (h' : Each R L' xs') : Each R (L ++ L') (xs ++ xs') := by
  refine ⟨by simp [h.1, h'.1], fun i v hv => ?_⟩
  rcases Nat.lt_or_ge i L.length with hi | hi
  · rw [List.getElem?_append_left hi] at hv
    rw [List.getElem?_append_left (by rw [← h.1]; exact hi)]
    exact h.2 i v hv
  · rw [List.getElem?_append_right hi] at hv
    rw [List.getElem?_append_right (by rw [← h.1]; exact hi), ← h.1]
    exact h'.2 _ v hv

theorem argsV_each (h : FRs φ lam perm S a w.heap) (take : List Nat) (f : Nat) : ∀ (xs : List Operand) (i : Nat),
    Each (fun v x => OV (mkC φ S.hp.length perm w.heap) w.heap lam S.box v x) (argsV P E S.tm take f i xs) (xs.map a.eval)
  | [], i => ⟨rfl, fun j v hv => by simp [argsV] at hv⟩
  | x :: xs, i => by
    obtain ⟨h1, h2⟩ := argsV_each h take f xs (i + 1)
    refine ⟨by simp [argsV, h1], fun j v hv => ?_⟩
    cases j with
    | zero =>
      simp [argsV] at hv; subst hv
      exact ⟨_, rfl, (h.ev take (paramK P E f i) x).1.strip⟩
    | succ j => simp [argsV] at hv; simpa using h2 j v hv

theorem opRun_wp (hE : EnvM P E) (h : FRs φ lam perm S a w.heap) {oa : OA} {call : Nat → List V → Heap → Option (V × Heap)} (hcall : ∀ f vs hp v hp', call f vs hp = some (v, hp') → CallOK P f vs hp v hp' ∧ Enters P f)
    {S' : St} (hr : opRun P E call oa o S = some S') {next : Act → World → Prop} {Q : Exit → Act → World → Prop} (hn : ∀ a' w', Nx φ perm S w S' a' w' → next a' w') : o.wp P a w next Q := by
  unfold opRun at hr
  split at hr
  · rename_i x args ats hop
    obtain ⟨hx, -⟩ := h.ev oa.take 0 x
    split at hr
    · rename_i f fst cs hv
      rw [hv] at hx
      dsimp only at hr
      split at hr
      · rename_i hc
        simp only [Bool.and_eq_true] at hc
        obtain ⟨hok, hns⟩ := hc
        obtain ⟨⟨v, hp'⟩, hcl, rfl⟩ := Option.map_eq_some_iff.1 hr
        obtain ⟨hC, hent⟩ := hcall _ _ _ _ _ hcl
        have hx' : VR (mkC φ S.hp.length perm w.heap) (.clo f fst cs) (a.eval x) := hx
        generalize hy : a.eval x = y at hx'
        cases hx' with
        | @clo _ _ _ farr arr fvals vals hfs hf hfv hs hh hv2 =>
          have e1 : Each (fun v x => OV (mkC φ S.hp.length perm w.heap) w.heap lam S.box v x) fst farr.toList := ⟨by simpa using hfs.symm, fun i v hi => ⟨fvals i, by
            simpa using hf i (getE hi), (hfv i v hi).ov⟩⟩
          have e3 : Each (fun v x => OV (mkC φ S.hp.length perm w.heap) w.heap lam S.box v x) cs arr.toList := ⟨by simpa using hs.symm, fun i v hi => ⟨vals i, by
            simpa using hh i (getE hi), (hv2 i v hi).ov⟩⟩
          have all := (e1.append (argsV_each (P := P) (E := E) h oa.take f args.toList fst.length)).append e3
          refine callOp_wp hE h hop hy hent hns rfl ?_ (fun i u hu => ?_) hC hn
          · have := all.1
            simp only [List.length_map] at this ⊢
            rw [this]; simp
          · rw [List.getElem?_map] at hu
            cases hq : (fst ++ argsV P E S.tm oa.take f fst.length args.toList ++ cs)[i]? with
            | none => rw [hq] at hu; cases hu
            | some u0 =>
              rw [hq] at hu; simp at hu; subst hu
              obtain ⟨y, hy1, hy2⟩ := all.2 i u0 hq
              have hou : argOk u0.strip = true := List.all_eq_true.1 hok _ (List.mem_map.2 ⟨u0, List.mem_of_getElem? hq, rfl⟩)
              exact ⟨y, by rw [← Array.getElem?_toList]; simpa using hy1, hou, argOk_vr hy2.strip hou, fun _ _ _ => Rt.strip⟩
      · cases hr
    · cases hr
  · obtain ⟨u, hu, rfl⟩ := Option.map_eq_some_iff.1 hr
    exact stepRun_wp oa hE h hu hn
end
end Go.Hx

/-
  Hx: guards.
-/
namespace Go.Hx
open Go

section
variable [Glob] {P : Program} {E : Env} {φ : Phi} {lam : Nat → Nat} {perm : Perm} {S : St} {a : Act} {w : World} {o : Oper}

theorem getT_val {M : Mem} (h : FRs φ lam perm S a M) {d : Nat} {v : V} (hv : getT S.tm d = v) (hne : v ≠ .dead) : ∃ x, a.tmps[d]? = some x ∧ OV (mkC φ S.hp.length perm M) M lam S.box v x := by
  unfold getT at hv
  cases e : S.tm[d]? with
  | none => rw [e] at hv; exact absurd hv.symm hne
  | some u =>
    rw [e] at hv; simp at hv; subst hv
    have hlt := getE e
    have hs : d < a.tmps.size := by rw [h.len]; exact hlt
    have := (h.tm d u e).ov
    refine ⟨a.tmps[d], by simp [hs], ?_⟩
    simpa [Array.getD_eq_getD_getElem?, hs] using this

theorem wanted_sound {M : Mem} (h : FRs φ lam perm S a M) {ops : Array Oper} {b : Bool} (hw : wantedV ops o S = some b) : Region.wanted o (yielded ops a.tmps) = b := by
  unfold wantedV at hw
  unfold Region.wanted
  split at hw
  · rename_i hg; cases hw; rw [hg]
  · rename_i j want hg
    rw [hg]
    dsimp only
    split at hw
    · cases hw
    · rename_i d hd
      unfold yielded
      rw [hd]
      split at hw
      · rename_i b0 hv
        have hw' := Option.some.inj hw
        rw [← hw']
        have hne : getT S.tm d ≠ .dead := fun e => by rw [e] at hv; cases hv
        obtain ⟨x, hx, hov⟩ := getT_val h rfl hne
        have e : x = .bool b0 := OV.bool hov hv
        simp only [Option.bind_some, hx, e]
        rfl
      · split at hw
        · rename_i hv
          cases hw
          obtain ⟨x, hx, hov⟩ := getT_val h hv (by simp)
          obtain ⟨arr, e, -, -⟩ := OV.tup hov
          simp only [Option.bind_some, hx, e]
          rfl
        · cases hw
end
end Go.Hx

/-
  Hx: a region's operations, in the order of the text.
-/
namespace Go.Hx
open Go

section
variable [Glob] {P : Program} {E : Env}

theorem Nx.refl {φ : Phi} {lam : Nat → Nat} {perm : Perm} {S : St} {a : Act} {w : World} (h : FRs φ lam perm S a w.heap) : Nx φ perm S w S a w :=
  ⟨⟨φ, lam, perm, h, Evo.refl _ _, fun _ _ => rfl, fun _ _ _ h => h⟩, Nat.le_refl _, rfl, rfl, rfl⟩

theorem Nx.step {φ φ1 : Phi} {perm perm1 : Perm} {S S1 S2 : St} {a2 : Act} {w w1 w2 : World} (hE : Evo w.heap perm w1.heap perm1) (hφ : ∀ b, b < S.hp.length → φ1 b = φ b) (hhd : ∀ g v x, φ.hd g v = some x → φ1.hd g v = some x)
    (hlen : S.hp.length ≤ S1.hp.length) (h1 : w1.os = w.os) (h2 : w1.tape = w.tape) (h3 : w1.output = w.output) (h : Nx φ1 perm1 S1 w1 S2 a2 w2) : Nx φ perm S w S2 a2 w2 := by
  obtain ⟨⟨φ2, lam2, perm2, hF, hE2, hφ2, hhd2⟩, hl, k1, k2, k3⟩ := h
  exact ⟨⟨φ2, lam2, perm2, hF, hE.trans hE2, fun b hb => (hφ2 b (Nat.lt_of_lt_of_le hb hlen)).trans (hφ b hb), fun g v x hx => hhd2 g v x (hhd g v x hx)⟩, Nat.le_trans hlen hl, k1.trans h1, k2.trans h2, k3.trans h3⟩

theorem opsRun_wp (hE : EnvM P E) {call : Nat → List V → Heap → Option (V × Heap)} (hcall : ∀ f vs hp v hp', call f vs hp = some (v, hp') → CallOK P f vs hp v hp' ∧ Enters P f) {ops : Array Oper} {Q : Exit → Act → World → Prop} {S' : St} :
    ∀ (l : List (Nat × OA)) {φ : Phi} {lam : Nat → Nat} {perm : Perm} {S : St} {a : Act} {w : World}, FRs φ lam perm S a w.heap → opsRun P E call ops l S = some S' →
      (∀ a' w', Nx φ perm S w S' a' w' → Q .normal a' w') → wpOps P ops Q (l.map (·.1)) a w
  | [], φ, lam, perm, S, a, w, h, hr, hn => by
    simp only [opsRun, Option.some.injEq] at hr
    subst hr
    exact hn a w (Nx.refl h)
  | (i, oa) :: l, φ, lam, perm, S, a, w, h, hr, hn => by
    simp only [opsRun] at hr
    simp only [List.map_cons, wpOps]
    split at hr
    · cases hr
    · rename_i o ho
      rw [ho]
      dsimp only
      split at hr
      · cases hr
      · rename_i hw
        rw [wanted_sound h hw]
        simp only [if_true]
        obtain ⟨S1, hr1, hr2⟩ := Option.bind_eq_some_iff.1 hr
        refine .inl (opRun_wp hE h hcall hr1 fun a' w' hnx => ?_)
        obtain ⟨⟨φ1, lam1, perm1, hF, hE1, hφ1, hhd1⟩, hl, k1, k2, k3⟩ := hnx
        exact opsRun_wp hE hcall l hF hr2 fun a2 w2 h2 => hn a2 w2 (Nx.step hE1 hφ1 hhd1 hl k1 k2 k3 h2)
      · rename_i hw
        rw [wanted_sound h hw]
        simp only [Bool.false_eq_true, if_false]
        cases hd : o.dst with
        | none =>
          rw [hd] at hr
          exact opsRun_wp hE hcall l h hr hn
        | some d =>
          rw [hd] at hr
          have hF := h.setT (d := d) (v := .tup []) (x := undef) ⟨VR.tup (fun _ => undef) rfl (fun i hi => by simp at hi) (fun i v hv => by simp at hv), by unfold Rt; trivial⟩
          exact opsRun_wp hE hcall l hF hr fun a2 w2 h2 => hn a2 w2 ⟨h2.out, h2.hp, h2.os, h2.tape, h2.output⟩
end
end Go.Hx

/-
  Hx: code, by fuel, against the model's rule for code.
-/
namespace Go.Hx
open Go

def Ex.out : Ex → Exit
  | .normal => .normal
  | .exit id => .exit id
  | .ret => .ret

/-- all regions of a code -/
def Regs (p : Nat → Array Oper → Bool → Prop) : Code → Prop
  | .region id ops d => p id ops d
  | .seq x y => Regs p x ∧ Regs p y
  | .cond _ x y => Regs p x ∧ Regs p y
  | .block _ x => Regs p x
  | .loop x => Regs p x
  | _ => True

/-- a round, and what follows -/
def W1 (P : Program) (c : Code) (Q : Exit → Act → World → Prop) (a : Act) (w : World) : Prop :=
  ∀ (b : Frame) (k : List Item) (cs : List Frame), ∃ e a' w', Q e a' w' ∧ Arrives P (lone (b.at a (.code c :: .inLoop c :: k)) cs w) b k cs e a' w'

theorem wp_loop_W1 {P : Program} {c : Code} {Q : Exit → Act → World → Prop} {a : Act} {w : World} (h : W1 P c Q a w) : (Code.loop c).wp P Q a w := fun b k cs =>
  let ⟨e, a', w', q, r⟩ := h b k cs
  ⟨e, a', w', q, .of_steps (.one step_loop) r⟩

theorem W1_round {P : Program} {c : Code} {Q : Exit → Act → World → Prop} {a : Act} {w : World} (h : c.wp P (Exit.then (W1 P c Q) Q) a w) : W1 P c Q a w := by
  intro b k cs
  obtain ⟨e, a₁, w₁, hq, harr⟩ := h b (.inLoop c :: k) cs
  cases e with
  | normal =>
    obtain ⟨e₂, a₂, w₂, hq₂, harr₂⟩ := hq b k cs
    exact ⟨e₂, a₂, w₂, hq₂, .of_steps (Steps.trans harr (.one step_inLoop)) harr₂⟩
  | exit id => exact ⟨_, a₁, w₁, hq, .pass (x := .inLoop c) rfl (fun _ _ => .inl (by simp)) harr⟩
  | goto l => exact ⟨_, a₁, w₁, hq, .pass (x := .inLoop c) rfl (fun _ _ => .inl (by simp)) harr⟩
  | ret => exact ⟨_, a₁, w₁, hq, .pass (x := .inLoop c) rfl (fun _ _ => .inl (by simp)) harr⟩
  | panic ch => exact ⟨_, a₁, w₁, hq, .pass (x := .inLoop c) rfl (fun _ _ => .inl (by simp)) harr⟩
  | outgrown => exact ⟨_, a₁, w₁, hq, .pass (x := .inLoop c) rfl (fun _ _ => .inl (by simp)) harr⟩

section
variable [Glob] {P : Program} {E : Env} {A : Marks}

/-- a region, run here, runs there -/
def RegOK (P : Program) (E : Env) (l : List (Nat × OA)) (id : Nat) (ops : Array Oper) (d : Bool) : Prop :=
  ∀ (call : Nat → List V → Heap → Option (V × Heap)), (∀ f vs hp v hp', call f vs hp = some (v, hp') → CallOK P f vs hp v hp' ∧ Enters P f) →
    ∀ (S S' : St) (φ : Phi) (lam : Nat → Nat) (perm : Perm) (a : Act) (w : World) (Q : Exit → Act → World → Prop), regRun P E call ops d l S = some S' → FRs φ lam perm S a w.heap →
      (∀ a' w', Nx φ perm S w S' a' w' → Q .normal a' w') → (Code.region id ops d).wp P Q a w

theorem Nx.then {φ : Phi} {perm : Perm} {S S1 S2 : St} {w w1 w2 : World} {a1 a2 : Act} (h : Nx φ perm S w S1 a1 w1) {φ1 : Phi} {perm1 : Perm} (hE : Evo w.heap perm w1.heap perm1) (hφ : ∀ b, b < S.hp.length → φ1 b = φ b)
    (hhd : ∀ g v x, φ.hd g v = some x → φ1.hd g v = some x) (h2 : Nx φ1 perm1 S1 w1 S2 a2 w2) : Nx φ perm S w S2 a2 w2 :=
  Nx.step hE hφ hhd h.hp h.os h.tape h.output h2

theorem cond_sound {φ : Phi} {lam : Nat → Nat} {perm : Perm} {S : St} {a : Act} {M : Mem} (h : FRs φ lam perm S a M) {x : Operand} {b : Bool} (hb : (evO S.tm [] 0 x).bool? = some b) : a.eval x = .bool b := by
  obtain ⟨hx, -⟩ := h.ev [] 0 x
  exact OV.bool hx hb

theorem codeRun_wp {call : Nat → List V → Heap → Option (V × Heap)} (hcall : ∀ f vs hp v hp', call f vs hp = some (v, hp') → CallOK P f vs hp v hp' ∧ Enters P f) (f : Nat) :
    ∀ (n : Nat) (c : Code) (S : St) (e : Ex) (S' : St), Regs (fun id ops d => RegOK P E (A.at_ f id) id ops d) c → codeRun P E A call f n c S = some (e, S') →
      ∀ (φ : Phi) (lam : Nat → Nat) (perm : Perm) (a : Act) (w : World) (Q : Exit → Act → World → Prop), FRs φ lam perm S a w.heap → (∀ a' w', Nx φ perm S w S' a' w' → Q e.out a' w') →
        c.wp P Q a w ∧ ∀ x, c = .loop x → W1 P x Q a w
  | 0, c, S, e, S', _, hr, _, _, _, _, _, _, _, _ => by simp [codeRun] at hr
  | n + 1, c, S, e, S', hR, hr, φ, lam, perm, a, w, Q, h, hn => by
    cases c with
    | skip =>
      simp only [codeRun, Option.some.injEq, Prod.mk.injEq] at hr
      obtain ⟨rfl, rfl⟩ := hr
      exact ⟨wp_skip (hn _ _ (Nx.refl h)), fun x hx => by cases hx⟩
    | region id ops d =>
      simp only [codeRun] at hr
      obtain ⟨S1, h1, h2⟩ := Option.map_eq_some_iff.1 hr
      simp only [Prod.mk.injEq] at h2
      obtain ⟨rfl, rfl⟩ := h2
      exact ⟨hR call hcall S S1 φ lam perm a w Q h1 h hn, fun x hx => by cases hx⟩
    | seq x y =>
      simp only [codeRun] at hr
      refine ⟨wp_seq ?_, fun x hx => by cases hx⟩
      split at hr
      · rename_i S1 h1
        refine (codeRun_wp hcall f n x S _ S1 hR.1 h1 φ lam perm a w _ h fun a1 w1 hnx => ?_).1
        obtain ⟨⟨φ1, lam1, perm1, hF, hE, hφ, hhd⟩, -⟩ := id hnx
        exact (codeRun_wp hcall f n y S1 e S' hR.2 hr φ1 lam1 perm1 a1 w1 Q hF fun a2 w2 h2 => hn a2 w2 (hnx.then hE hφ hhd h2)).1
      · rename_i hno
        refine (codeRun_wp hcall f n x S e S' hR.1 hr φ lam perm a w _ h fun a1 w1 hnx => ?_).1
        have := hn a1 w1 hnx
        cases e with
        | normal => exact absurd hr (hno S')
        | exit id => exact this
        | ret => exact this
    | cond x c1 c2 =>
      simp only [codeRun] at hr
      refine ⟨?_, fun x hx => by cases hx⟩
      split at hr
      · rename_i hb
        exact wp_cond_true (cond_sound h (by rw [hb]; rfl)) (codeRun_wp hcall f n c1 S e S' hR.1 hr φ lam perm a w Q h hn).1
      · rename_i hb
        exact wp_cond_false (cond_sound h (by rw [hb]; rfl)) (codeRun_wp hcall f n c2 S e S' hR.2 hr φ lam perm a w Q h hn).1
      · rename_i hb
        exact wp_cond_true (cond_sound h (by rw [hb]; rfl)) (codeRun_wp hcall f n c1 S e S' hR.1 hr φ lam perm a w Q h hn).1
      · rename_i hb
        exact wp_cond_false (cond_sound h (by rw [hb]; rfl)) (codeRun_wp hcall f n c2 S e S' hR.2 hr φ lam perm a w Q h hn).1
      · cases hr
    | block id x =>
      simp only [codeRun] at hr
      refine ⟨wp_block ?_, fun x hx => by cases hx⟩
      split at hr
      · rename_i id' S1 h1
        refine (codeRun_wp hcall f n x S _ S1 hR h1 φ lam perm a w _ h fun a1 w1 hnx => ?_).1
        simp only [Ex.out, Exit.inBlock]
        split at hr
        · rename_i hid
          simp only [Option.some.injEq, Prod.mk.injEq] at hr
          obtain ⟨rfl, rfl⟩ := hr
          rw [if_pos hid]; exact hn _ _ hnx
        · rename_i hid
          simp only [Option.some.injEq, Prod.mk.injEq] at hr
          obtain ⟨rfl, rfl⟩ := hr
          rw [if_neg hid]; exact hn _ _ hnx
      · rename_i hno
        refine (codeRun_wp hcall f n x S e S' hR hr φ lam perm a w _ h fun a1 w1 hnx => ?_).1
        have := hn a1 w1 hnx
        cases e with
        | normal => exact this
        | exit id' => exact absurd hr (hno id' S')
        | ret => exact this
    | loop x =>
      simp only [codeRun] at hr
      have hW : W1 P x Q a w := by
        refine W1_round ?_
        split at hr
        · rename_i S1 h1
          refine (codeRun_wp hcall f n x S _ S1 hR h1 φ lam perm a w _ h fun a1 w1 hnx => ?_).1
          obtain ⟨⟨φ1, lam1, perm1, hF, hE, hφ, hhd⟩, -⟩ := id hnx
          exact (codeRun_wp hcall f n (.loop x) S1 e S' hR hr φ1 lam1 perm1 a1 w1 Q hF fun a2 w2 h2 => hn a2 w2 (hnx.then hE hφ hhd h2)).2 x rfl
        · rename_i hno
          refine (codeRun_wp hcall f n x S e S' hR hr φ lam perm a w _ h fun a1 w1 hnx => ?_).1
          have := hn a1 w1 hnx
          cases e with
          | normal => exact absurd hr (hno S')
          | exit id => exact this
          | ret => exact this
      exact ⟨wp_loop_W1 hW, fun y hy => by cases hy; exact hW⟩
    | exit id =>
      simp only [codeRun, Option.some.injEq, Prod.mk.injEq] at hr
      obtain ⟨rfl, rfl⟩ := hr
      exact ⟨wp_exit (hn _ _ (Nx.refl h)), fun x hx => by cases hx⟩
    | ret =>
      simp only [codeRun, Option.some.injEq, Prod.mk.injEq] at hr
      obtain ⟨rfl, rfl⟩ := hr
      exact ⟨wp_ret (hn _ _ (Nx.refl h)), fun x hx => by cases hx⟩
    | rangeFunc _ _ _ _ => simp [codeRun] at hr
    | scope _ => simp [codeRun] at hr
    | label _ => simp [codeRun] at hr
    | goto _ => simp [codeRun] at hr
    | refuse _ => simp [codeRun] at hr
end
end Go.Hx

/-
  Hx: a call, by fuel, against the model's rule for calls.
-/
namespace Go.Hx
open Go

section
variable [Glob] {P : Program} {E : Env} {A : Marks} {φ : Phi} {lam : Nat → Nat} {perm : Perm} {S : St} {a : Act} {w : World}

/-- a result, in the model -/
def resM (tmps : Array Value) : ResultVar → Sem Value
  | .tmp t => pure (tmps.getD t undef)
  | .cell a t => do loadVar t (← asAddr (tmps.getD a undef))

theorem getT_ov (h : FRs φ lam perm S a w.heap) (t : Nat) : OV (mkC φ S.hp.length perm w.heap) w.heap lam S.box (getT S.tm t) (a.tmps.getD t undef) := by
  unfold getT
  cases e : S.tm[t]? with
  | none => trivial
  | some v => exact (h.tm t v e).ov

theorem resOne_sound (hE : EnvM P E) (h : FRs φ lam perm S a w.heap) {r : ResultVar} {v : V} (hr : resOne E S r = some v) :
    ∃ x, (resM a.tmps r).run P w = .ok x w ∧ OV (mkC φ S.hp.length perm w.heap) w.heap lam S.box v x ∧ ∀ perm' M' p, Rt perm' M' p v x := by
  cases r with
  | tmp t =>
    simp only [resOne, Option.some.injEq] at hr
    subst hr
    exact ⟨_, by simp only [resM, Sem.run_pure], (getT_ov h t).strip, fun _ _ _ => Rt.strip⟩
  | cell t ty =>
    simp only [resOne] at hr
    split at hr
    · rename_i hok
      have ht := hE.toEnvE.ok ty hok
      have hov := getT_ov h t
      split at hr
      · rename_i s o hv
        rw [hv] at hov
        obtain ⟨-, hx⟩ := hov
        obtain ⟨cs, hb, hl⟩ := Option.bind_eq_some_iff.1 hr
        obtain ⟨h1, arr, elem, h2, h3⟩ := h.br s cs hb
        have hrd : Reads (mkC φ S.hp.length perm w.heap) w.heap (lam s) 0 cs := h3.reads h2
        obtain ⟨x, k1, k2, k3⟩ := loadV_sound (w := w) (o := o) ht hrd hl
        refine ⟨x, ?_, k2.ov, fun p' M' p => k3 p' M' p⟩
        simp only [resM, hx, Sem.run_bind, asAddr, Sem.run_pure, Result.andThen_ok]
        rw [Nat.zero_add] at k1; exact k1
      · rename_i b o hv
        rw [hv] at hov
        have hx : VR (mkC φ S.hp.length perm w.heap) (.ptr b o) (a.tmps.getD t undef) := hov
        split at hr
        · rename_i cs hb
          obtain ⟨h1, arr, elem, h2, h3⟩ := h.hr.cells b cs hb
          have hrd : Reads (mkC φ S.hp.length perm w.heap) w.heap (φ b) 0 cs := h3.reads h2
          obtain ⟨x, k1, k2, k3⟩ := loadV_sound (w := w) (o := o) ht hrd hr
          generalize hy : a.tmps.getD t undef = y at hx
          cases hx with
          | ptr hlt =>
            refine ⟨x, ?_, k2.ov, fun p' M' p => k3 p' M' p⟩
            simp only [resM, hy, Sem.run_bind, asAddr, Sem.run_pure, Result.andThen_ok, mkC]
            rw [Nat.zero_add] at k1; exact k1
        · cases hr
      · cases hr
    · cases hr

theorem resL_sound (hE : EnvM P E) (h : FRs φ lam perm S a w.heap) : ∀ (l : List ResultVar) (vs : List V), resL E S l = some vs →
    ∃ xs : List Value, (l.mapM (resM a.tmps)).run P w = .ok xs w ∧ vs.length = xs.length ∧ ∀ (i : Nat) v, vs[i]? = some v → ∃ x, xs[i]? = some x ∧ VR (mkC φ S.hp.length perm w.heap) v x ∧ ∀ perm' M' p, Rt perm' M' p v x
  | [], vs, hr => by
    simp only [resL, Option.some.injEq] at hr; subst hr
    exact ⟨[], by simp, rfl, fun i v hv => by simp at hv⟩
  | r :: l, vs, hr => by
    simp only [resL] at hr
    split at hr
    · rename_i v hv
      split at hr
      · rename_i hok
        obtain ⟨vs', hl, rfl⟩ := Option.map_eq_some_iff.1 hr
        obtain ⟨x, h1, h2, h3⟩ := resOne_sound hE h hv
        obtain ⟨xs, k1, k2, k3⟩ := resL_sound hE h l vs' hl
        refine ⟨x :: xs, by simp [List.mapM_cons, Sem.run_bind, h1, k1], by simp [k2], fun i u hu => ?_⟩
        cases i with
        | zero => simp at hu; subst hu; exact ⟨x, rfl, argOk_vr h2 hok, h3⟩
        | succ i => simpa using k3 i u (by simpa using hu)
      · cases hr
    · cases hr

theorem resV_sound (hE : EnvM P E) (h : FRs φ lam perm S a w.heap) {fn : Func} {v : V} (hr : resV E fn S = some v) :
    ∃ x, (results fn a.tmps).run P w = .ok x w ∧ VR (mkC φ S.hp.length perm w.heap) v x ∧ ∀ q M p, Rt q M p v x := by
  unfold resV at hr
  have hres : ∀ xs, (fn.results.toList.mapM (resM a.tmps)).run P w = .ok xs w → (results fn a.tmps).run P w = .ok (if h : xs.toArray.size = 1 then xs.toArray[0] else .tuple xs.toArray) w := fun xs hxs => by
    have e : results fn a.tmps = (do let vs ← fn.results.mapM (resM a.tmps); pure (if h : vs.size = 1 then vs[0] else .tuple vs)) := by
      unfold results; congr 1
    rw [e, Array.mapM_eq_mapM_toList]
    simp only [Sem.run_bind, Sem.run_map, hxs, Result.andThen_ok, Sem.run_pure]
  split at hr
  · cases hr
  · rename_i v' hl
    cases hr
    obtain ⟨xs, h1, h2, h3⟩ := resL_sound hE h _ _ hl
    obtain ⟨x, rfl⟩ : ∃ x, xs = [x] := by
      cases xs with
      | nil => simp at h2
      | cons x xs => cases xs with
        | nil => exact ⟨x, rfl⟩
        | cons y ys => simp at h2
    obtain ⟨y, hy, k1, k2⟩ := h3 0 v rfl
    simp at hy; subst hy
    refine ⟨x, ?_, k1, k2⟩
    rw [hres _ h1]; simp
  · rename_i vs hne hl
    cases hr
    obtain ⟨xs, h1, h2, h3⟩ := resL_sound hE h _ _ hl
    refine ⟨.tuple xs.toArray, ?_, ?_, fun _ _ _ => by unfold Rt; trivial⟩
    · rw [hres _ h1]
      have : ¬ xs.toArray.size = 1 := by
        intro h1'
        have hv1 : vs.length = 1 := by rw [h2]; simpa using h1'
        obtain ⟨v, rfl⟩ := List.length_eq_one_iff.1 hv1
        exact hne v rfl
      rw [dif_neg this]
    · refine VR.tup (fun i => (xs[i]?).getD undef) (by simp [h2]) (fun i hi => ?_) (fun i v hv => ?_)
      · rw [h2] at hi; simp [hi]
      · obtain ⟨x, k1, k2, -⟩ := h3 i v hv
        rw [k1]; exact k2

/-- all functions of a program: their regions -/
def AllRegs (P : Program) (E : Env) (A : Marks) : Prop := ∀ (f : Nat) (fn : Func) (c : Code), P.funcs[f]? = some fn → fn.body = some c → Regs (fun id ops d => RegOK P E (A.at_ f id) id ops d) c

theorem callRun_ok (hE : EnvM P E) (hA : AllRegs P E A) (hN : ∀ (f : Nat) (fn : Func), P.funcs[f]? = some fn → fn.body.isNone = false → (fn.name == "runtime.NumGoroutine") = false) :
    ∀ (n f : Nat) (vs : List V) (hp : Heap) (v : V) (hp' : Heap), callRun P E A n f vs hp = some (v, hp') → CallOK P f vs hp v hp' ∧ Enters P f
  | 0, f, vs, hp, v, hp', h => by simp [callRun] at h
  | n + 1, f, vs, hp, v, hp', h => by
    simp only [callRun] at h
    split at h
    · cases h
    · rename_i fn hfn
      split at h
      · cases h
      · rename_i c hc
        refine ⟨fun φ perm args w hF => ?_, fn, hfn, hN f fn hfn (by rw [hc]; rfl), by rw [hc]; rfl⟩
        have hsz : args.size = vs.length := hF.len
        have hpad := hF.pad (fn.ntmps - vs.length)
        refine calls_of_wp hfn hc ?_
        rw [hsz]
        have fin : ∀ (e : Ex) (S' : St), codeRun P E A (callRun P E A n) f 100000 c { tm := vs ++ List.replicate (fn.ntmps - vs.length) .dead, bx := [], hp } = some (e, S') → (e = .normal ∨ e = .ret) →
            ∀ v hp', resV E fn S' = some v → S'.hp = hp' → c.wp P (bodyPost P fn fun e w' => match e with
              | .returned x => ∃ (φ' : Phi) (lam' : Nat → Nat) (perm' : Perm) (S' : St) (a' : Act), FRs φ' lam' perm' S' a' w'.heap ∧ S'.hp = hp' ∧ hp.length ≤ hp'.length ∧
                  VR (mkC φ' hp'.length perm' w'.heap) v x ∧ (∀ q M p, Rt q M p v x) ∧ Evo w.heap perm w'.heap perm' ∧ (∀ b, b < hp.length → φ' b = φ b) ∧ (∀ g v x, φ.hd g v = some x → φ'.hd g v = some x) ∧
                  w'.os = w.os ∧ w'.tape = w.tape ∧ w'.output = w.output
              | _ => False) { tmps := args ++ Array.replicate (fn.ntmps - vs.length) undef, defers := [] } w := by
          intro e S' hrun he v hp' hv hh
          refine (codeRun_wp (callRun_ok hE hA hN n) f 100000 c _ e S' (hA f fn c hfn hc) hrun φ _ perm _ w _ hpad fun a' w' hnx => ?_).1
          obtain ⟨⟨φ', lam', perm', hF', hEv, hφ, hhd⟩, hlen, h1, h2, h3⟩ := hnx
          obtain ⟨x, hx, hvr, hrt⟩ := resV_sound hE hF' hv
          have : bodyPost P fn (fun e w' => match e with
              | .returned x => ∃ (φ' : Phi) (lam' : Nat → Nat) (perm' : Perm) (S' : St) (a' : Act), FRs φ' lam' perm' S' a' w'.heap ∧ S'.hp = hp' ∧ hp.length ≤ hp'.length ∧
                  VR (mkC φ' hp'.length perm' w'.heap) v x ∧ (∀ q M p, Rt q M p v x) ∧ Evo w.heap perm w'.heap perm' ∧ (∀ b, b < hp.length → φ' b = φ b) ∧ (∀ g v x, φ.hd g v = some x → φ'.hd g v = some x) ∧
                  w'.os = w.os ∧ w'.tape = w.tape ∧ w'.output = w.output
              | _ => False) .normal a' w' := ⟨hF'.defers, x, hx, φ', lam', perm', S', a', hF', hh, by rw [← hh]; exact hlen, by rw [← hh]; exact hvr, hrt, hEv, hφ, hhd, h1, h2, h3⟩
          rcases he with rfl | rfl <;> exact this
        split at h
        · rename_i S' hrun
          obtain ⟨v0, hv, h2⟩ := Option.map_eq_some_iff.1 h
          simp only [Prod.mk.injEq] at h2
          obtain ⟨rfl, rfl⟩ := h2
          exact fin _ _ hrun (.inl rfl) _ _ hv rfl
        · rename_i S' hrun
          obtain ⟨v0, hv, h2⟩ := Option.map_eq_some_iff.1 h
          simp only [Prod.mk.injEq] at h2
          obtain ⟨rfl, rfl⟩ := h2
          exact fin _ _ hrun (.inr rfl) _ _ hv rfl
        · cases h
end
end Go.Hx

/-
  Hx: on what an operation depends.
-/
namespace Go.Hx
open Go

section
variable [Glob] {E : Env} {oa : OA} {o : Oper}

/-- the same operands -/
def SameEv (o : Oper) (take : List Nat) (tm tm' : List V) : Prop := ∀ x ∈ o.op.operands.toList, ∀ k, evO tm take k x = evO tm' take k x

omit [Glob] in
theorem parts_congr {ev ev' : Nat → Operand → V} {kf : Nat → Nat} : ∀ {l : List (Nat × Operand)}, (∀ x ∈ l.map (·.2), ∀ k, ev k x = ev' k x) → partsV ev kf l = partsV ev' kf l := by
  intro l h
  unfold partsV
  apply List.map_congr_left
  intro p hp
  rw [h p.2 (List.mem_map.2 ⟨p, hp, rfl⟩)]

/-- does it ask whether stamps are held? -/
def nsRead (o : Oper) : Bool :=
  match o.op with
  | .call { callee := .value _, .. } => true
  | .call { callee := .builtin .delete, .. } => true
  | _ => false

theorem stepOut_tm {tm tm' : List V} {bxg : Nat → Option (List V)} {hp : Heap} (h : SameEv o oa.take tm tm') (hn : nsRead o = true → noSt tm = noSt tm') : stepOut E oa o tm bxg hp = stepOut E oa o tm' bxg hp := by
  unfold SameEv at h
  obtain ⟨dst, op, type, pos, after, guard⟩ := o
  dsimp only at h ⊢
  cases op <;> simp only [Op.operands] at h <;> unfold stepOut <;> dsimp only
  case move x => rw [h x (by simp)]
  case assign x => rw [h x (by simp)]
  case pick c a b => rw [h c (by simp), h a (by simp), h b (by simp)]
  case box t x => rw [h x (by simp)]
  case build t ps =>
    have hp' : ∀ kf, partsV (evO tm oa.take) kf ps.toList = partsV (evO tm' oa.take) kf ps.toList := fun kf => parts_congr (fun x hx k => h x (by simpa using hx) k)
    simp only [hp']
  case buildSlice t n ps =>
    have hp' : ∀ kf, partsV (evO tm oa.take) kf ps.toList = partsV (evO tm' oa.take) kf ps.toList := fun kf => parts_congr (fun x hx k => h x (by simpa using hx) k)
    simp only [hp']
  case load t x => rw [h x (by simp)]
  case store t x y => rw [h x (by simp), h y (by simp)]
  case nilCheck x => rw [h x (by simp)]
  case binOp op t x y yt => rw [h x (by simp), h y (by simp)]
  case unOp op t x => rw [h x (by simp)]
  case convert s d x => rw [h x (by simp)]
  case makeFunc f a b =>
    have e1 : a.toList.map (fun x => (evO tm oa.take 0 x).strip) = a.toList.map (fun x => (evO tm' oa.take 0 x).strip) := List.map_congr_left fun x hx => by rw [h x (by simp; left; simpa using hx)]
    have e2 : b.toList.map (fun x => (evO tm oa.take 0 x).strip) = b.toList.map (fun x => (evO tm' oa.take 0 x).strip) := List.map_congr_left fun x hx => by rw [h x (by simp; right; simpa using hx)]
    cases f <;> dsimp only
    rw [e1, e2]
  case makeMap t r => cases r <;> rfl
  case makeSlice t x y => rw [h x (by simp), h y (by simp)]
  case slice t x l hi m =>
    have hx := h x (by simp)
    have hl : l.map (evO tm oa.take 0) = l.map (evO tm' oa.take 0) := by cases l with
      | none => rfl
      | some y => simp [h y (by simp)]
    have hh : hi.map (evO tm oa.take 0) = hi.map (evO tm' oa.take 0) := by cases hi with
      | none => rfl
      | some y => simp [h y (by simp)]
    cases m with
    | none => dsimp only; rw [hx, hl, hh]
    | some y => dsimp only; rw [hx, hl, hh, h y (by simp)]
  case fieldAddr t x f => rw [h x (by simp)]
  case field t x f => rw [h x (by simp)]
  case indexAddr t x i => rw [h x (by simp), h i (by simp)]
  case index t x i => rw [h x (by simp), h i (by simp)]
  case lookup t m k ok => rw [h m (by simp), h k (by simp)]
  case mapUpdate t m k v => rw [h m (by simp), h k (by simp), h v (by simp)]
  case mapEntry t m k => rw [h m (by simp), h k (by simp)]
  case entryStore t m s v => rw [h m (by simp), h s (by simp), h v (by simp)]
  case extract x i => rw [h x (by simp)]
  case range t x => rw [h x (by simp)]
  case next x b =>
    cases b
    · dsimp only; rw [h x (by simp)]
    · rfl
  case call c =>
    obtain ⟨cal, args, ats⟩ := c
    cases cal
    case builtin b =>
      have e : ∀ k, args.toList.map (evO tm oa.take k) = args.toList.map (evO tm' oa.take k) := fun k => List.map_congr_left fun x hx => h x (by simp [Call.operands]; simpa using hx) k
      simp only [e]
      unfold builtinOut
      cases b <;> first | rfl | (rw [hn rfl])
    all_goals rfl

/-- does it look at no memory? -/
def pureOp (E : Env) (oa : OA) (o : Oper) : Bool :=
  match o.op with
  | .move _ | .assign _ | .pick .. | .build .. | .nilCheck _ | .binOp .. | .unOp .. | .makeFunc .. | .fieldAddr .. | .field .. | .index .. | .extract .. => true
  | .buildSlice .. => oa.mode == 0
  | .convert s _ _ => match (E.ti s).sh with | .slice _ _ => false | _ => true
  | .indexAddr t _ _ => match (E.ti t).sh with | .arr _ _ _ => true | _ => false
  | .slice t _ _ _ none => match (E.ti t).sh with | .str => true | _ => false
  | .call { callee := .builtin b, argTypes := ats, .. } =>
    (match b with
     | .max | .min => true
     | .len => (match ats[0]? with | some t => (match (E.ti t).sh with | .str | .slice _ _ | .arr _ _ _ => true | _ => false) | none => false)
     | _ => false)
  | _ => false

theorem stepOut_pure {tm : List V} {bxg bxg' : Nat → Option (List V)} {hp hp' : Heap} (h : pureOp E oa o = true) : stepOut E oa o tm bxg hp = stepOut E oa o tm bxg' hp' := by
  obtain ⟨dst, op, type, pos, after, guard⟩ := o
  cases op <;> simp only [pureOp, Bool.false_eq_true] at h <;> unfold stepOut <;> dsimp only
  case makeFunc f a b => cases f <;> rfl
  case buildSlice t n ps =>
    have hm : oa.mode = 0 := by simpa using h
    simp only [outSlice, hm]
  case convert s d x =>
    split at h
    · cases h
    · rename_i hs
      generalize (E.ti s).sh = q0 at *
      generalize (E.ti d).sh = q
      generalize evO tm oa.take 0 x = v
      cases q0 <;> first | (exact absurd rfl (hs _ _)) | (cases q <;> cases v <;> first | rfl | (rename_i y; cases y <;> rfl))
  case indexAddr t x i =>
    split at h
    · rename_i hs
      rw [hs]
      generalize evO tm oa.take 0 x = v
      generalize (evO tm oa.take 0 i).int? = q
      cases v <;> cases q <;> rfl
    · cases h
  case slice t x l hi m =>
    cases m with
    | none =>
      dsimp only at h ⊢
      split at h
      · rename_i hs
        rw [hs]
        unfold outSub
        generalize evO tm oa.take 0 x = v
        generalize oint? (Option.map (evO tm oa.take 0) l) = q
        generalize oint? (Option.map (evO tm oa.take 0) hi) = q'
        cases q <;> cases q' <;> cases v <;> first | rfl | (rename_i y; cases y <;> rfl)
      · cases h
    | some y => simp at h
  case call c =>
    obtain ⟨cal, args, ats⟩ := c
    cases cal <;> simp only [Bool.false_eq_true] at h
    case builtin b =>
      cases b <;> simp only [Bool.false_eq_true] at h
      case max => rfl
      case min => rfl
      case len =>
        split at h
        · rename_i t0 ht
          dsimp only
          rw [ht]
          dsimp only
          unfold builtinOut
          dsimp only
          generalize (E.ti t0).sh = q at *
          generalize List.map (evO tm oa.take (E.kOf t0)) args.toList = vs
          cases q <;> first | (cases h; done) | (cases vs with
            | nil => rfl
            | cons v r => cases r <;> cases v <;> first | rfl | (rename_i y; cases y <;> rfl) | (rename_i y _ _; cases y <;> rfl))
        · cases h

theorem stepOut_box {tm : List V} {bxg bxg' : Nat → Option (List V)} {hp : Heap} (hd : ∀ d, o.dst = some d → bxg d = bxg' d)
    (h1 : ∀ x ∈ o.op.operands.toList, ∀ k s q, evO tm oa.take k x = .lptr s q → bxg s = bxg' s)
    (h2 : ∀ x ∈ o.op.operands.toList, ∀ k s q k' n c, evO tm oa.take k x = .lmsl s q k' n c → bxg s = bxg' s) : stepOut E oa o tm bxg hp = stepOut E oa o tm bxg' hp := by
  have hA : ∀ mode (cs : List V), outAlloc o.dst oa.take mode bxg hp cs = outAlloc o.dst oa.take mode bxg' hp cs := fun mode cs => by
    unfold outAlloc
    cases hdd : o.dst with
    | none => rfl
    | some d => simp only [hd d hdd]
  have hS : ∀ k n es, outSlice o.dst oa.take oa.mode bxg hp k n es = outSlice o.dst oa.take oa.mode bxg' hp k n es := fun k n es => by
    unfold outSlice
    cases hdd : o.dst with
    | none => rfl
    | some d => simp only [hd d hdd]
  have hL : ∀ ti take v, (∀ s q, v = .lptr s q → bxg s = bxg' s) → outLoad ti o.dst oa.take take bxg hp v = outLoad ti o.dst oa.take take bxg' hp v := fun ti take v hv => by
    unfold outLoad
    cases v <;> try rfl
    rename_i s q
    dsimp only
    rw [hv _ _ rfl]
  have hSt : ∀ ti v x, (∀ s q, v = .lptr s q → bxg s = bxg' s) → outStore ti oa.take bxg hp v x = outStore ti oa.take bxg' hp v x := fun ti v x hv => by
    unfold outStore
    cases v <;> try rfl
    rename_i s q
    dsimp only
    rw [hv _ _ rfl]
  have hSub : ∀ sh v lo hi, (∀ s q, v = .lptr s q → bxg s = bxg' s) → outSub sh o.dst oa.take bxg hp v lo hi = outSub sh o.dst oa.take bxg' hp v lo hi := fun sh v lo hi hv => by
    unfold outSub
    cases v <;> cases sh <;> first | rfl | (dsimp only; rw [hv _ _ rfl]) | (rename_i y; cases y <;> rfl)
  obtain ⟨dst, op, type, pos, after, guard⟩ := o
  dsimp only at h1 h2 hA hS hL hSt hSub ⊢
  cases op <;> simp only [Op.operands] at h1 h2 <;> unfold stepOut <;> dsimp only
  case alloc t => rw [hA]
  case box t x => rw [hA]
  case buildSlice t n ps => simp only [hS]
  case load t x => rw [hL _ _ _ (h1 x (by simp) 0)]
  case store t x y => rw [hSt _ _ _ (h1 x (by simp) 0)]
  case convert s d x =>
    have := h2 x (by simp) 0
    generalize evO tm oa.take 0 x = v at this
    generalize (E.ti d).sh = q
    generalize (E.ti s).sh = q0
    cases q0 <;> cases q <;> cases v <;> first | rfl | (dsimp only; rw [this _ _ _ _ _ rfl]) | (rename_i y; cases y <;> rfl)
  case makeFunc f a b => cases f <;> rfl
  case makeMap t r => cases r <;> rfl
  case next x b => cases b <;> rfl
  case call c =>
    obtain ⟨cal, args, ats⟩ := c
    cases cal <;> rfl
  case makeSlice t x y => simp only [hS]
  case slice t x l hi m =>
    cases m with
    | none =>
      dsimp only
      split
      · rw [hSub _ _ _ _ (h1 x (by simp) 0)]
      · rfl
    | some y => rfl
end
end Go.Hx

/-
  Hx: a region's operations as updates; updates in any order.
-/
namespace Go.Hx
open Go

/-- the same, boxes by name -/
structure St.Eqv (S T : St) : Prop where
  tm : S.tm = T.tm
  hp : S.hp = T.hp
  bx : ∀ s, S.box s = T.box s

theorem St.Eqv.refl (S : St) : S.Eqv S := ⟨rfl, rfl, fun _ => rfl⟩
theorem St.Eqv.trans {S T U : St} (h : S.Eqv T) (h' : T.Eqv U) : S.Eqv U := ⟨h.tm.trans h'.tm, h.hp.trans h'.hp, fun s => (h.bx s).trans (h'.bx s)⟩
theorem St.Eqv.symm {S T : St} (h : S.Eqv T) : T.Eqv S := ⟨h.tm.symm, h.hp.symm, fun s => (h.bx s).symm⟩
theorem St.Eqv.box {S T : St} (h : S.Eqv T) : S.box = T.box := funext h.bx

theorem FRs.eqv [Glob] {φ : Phi} {lam : Nat → Nat} {perm : Perm} {S T : St} {a : Act} {M : Mem} (e : S.Eqv T) (h : FRs φ lam perm S a M) : FRs φ lam perm T a M := by
  obtain ⟨h1, h2, h3, h4, h5, h6, h7⟩ := h
  have e1 := e.tm; have e2 := e.hp; have e3 := e.box
  rw [e2] at h1
  rw [e3, e2] at h2
  rw [e3, e2, e1] at h3
  rw [e1] at h4
  exact ⟨h1, h2, h3, h4, h5, h6, h7⟩

def sets (tw : List (Nat × V)) (tm : List V) : List V := tw.foldl (fun tm p => tm.set p.1 p.2) tm

theorem sets_len (tw : List (Nat × V)) : ∀ tm, (sets tw tm).length = tm.length := by
  induction tw with
  | nil => intro tm; rfl
  | cons p r ih => intro tm; simp only [sets, List.foldl_cons] at ih ⊢; rw [ih]; simp

theorem sets_at (tw : List (Nat × V)) : ∀ (tm tm' : List V) (t : Nat), tm[t]? = tm'[t]? → (sets tw tm)[t]? = (sets tw tm')[t]? := by
  induction tw with
  | nil => intro tm tm' t h; exact h
  | cons p r ih =>
    intro tm tm' t h
    simp only [sets, List.foldl_cons] at ih ⊢
    refine ih _ _ t ?_
    rw [List.getElem?_set, List.getElem?_set]
    by_cases hp : p.1 = t
    · simp only [hp, if_true]
      have : t < tm.length ↔ t < tm'.length := by
        have e1 := @List.getElem?_eq_none_iff V tm t
        have e2 := @List.getElem?_eq_none_iff V tm' t
        rw [h] at e1
        have := e1.symm.trans e2
        omega
      by_cases hl : t < tm.length
      · simp [hl, this.1 hl]
      · have : ¬ t < tm'.length := fun q => hl (this.2 q)
        simp [hl, this]
    · simp [hp, h]

theorem sets_off (tw : List (Nat × V)) : ∀ (tm : List V) (t : Nat), t ∉ tw.map (·.1) → (sets tw tm)[t]? = tm[t]? := by
  induction tw with
  | nil => intro tm t _; rfl
  | cons p r ih =>
    intro tm t h
    simp only [List.map_cons, List.mem_cons, not_or] at h
    simp only [sets, List.foldl_cons] at ih ⊢
    rw [ih _ t h.2, List.getElem?_set, if_neg (fun e => h.1 e.symm)]

theorem apply_tm (S : St) (u : Upd) : (S.apply u).tm = sets u.tw S.tm := rfl

theorem apply_box (S : St) (u : Upd) (s : Nat) : (S.apply u).box s = match u.bw with | some (s', cs) => if s' = s then some cs else S.box s | none => S.box s := by
  unfold St.apply St.box
  dsimp only
  cases u.bw with
  | none => rfl
  | some p => obtain ⟨s', cs⟩ := p; dsimp only; rw [look_setBx]

theorem apply_hp (S : St) (u : Upd) : (S.apply u).hp = match u.hw with | some h => h | none => S.hp := rfl

theorem Eqv.apply {S T : St} (h : S.Eqv T) (u : Upd) : (S.apply u).Eqv (T.apply u) :=
  ⟨by rw [apply_tm, apply_tm, h.tm], by rw [apply_hp, apply_hp, h.hp], fun s => by rw [apply_box, apply_box, h.bx s]⟩

/-- two updates that touch different things -/
structure Apart (u v : Upd) : Prop where
  tw : ∀ t, t ∈ u.tw.map (·.1) → t ∉ v.tw.map (·.1)
  bw : ∀ s c s' c', u.bw = some (s, c) → v.bw = some (s', c') → s ≠ s'
  hw : u.hw = none ∨ v.hw = none

theorem Apart.comm {u v : Upd} (h : Apart u v) (S : St) : ((S.apply u).apply v).Eqv ((S.apply v).apply u) := by
  refine ⟨?_, ?_, fun s => ?_⟩
  · rw [apply_tm, apply_tm, apply_tm, apply_tm]
    apply List.ext_getElem?
    intro t
    by_cases hu : t ∈ u.tw.map (·.1)
    · have hv := h.tw t hu
      rw [sets_off _ _ _ hv]
      exact sets_at _ _ _ _ (sets_off _ _ _ hv).symm
    · rw [sets_off _ (sets v.tw S.tm) t hu]
      exact sets_at _ _ _ _ (sets_off _ _ _ hu)
  · rw [apply_hp, apply_hp, apply_hp, apply_hp]
    rcases h.hw with e | e <;> rw [e]
  · rw [apply_box, apply_box, apply_box, apply_box]
    cases hu : u.bw with
    | none => rfl
    | some p =>
      obtain ⟨s1, c1⟩ := p
      cases hv : v.bw with
      | none => rfl
      | some q =>
        obtain ⟨s2, c2⟩ := q
        have hne := h.bw _ _ _ _ hu hv
        dsimp only
        by_cases e1 : s1 = s
        · subst e1; simp [Ne.symm hne]
        · by_cases e2 : s2 = s
          · subst e2; simp [e1]
          · simp [e1, e2]

/-- the updates of X, in the order of the text, from place p on -/
def stX : List Upd → (Nat → Bool) → Nat → St → St
  | [], _, _, S => S
  | u :: r, X, p, S => stX r X (p + 1) (if X p then S.apply u else S)

theorem stX_eqv : ∀ (us : List Upd) (X : Nat → Bool) (p : Nat) {S T : St}, S.Eqv T → (stX us X p S).Eqv (stX us X p T)
  | [], _, _, _, _, h => h
  | u :: r, X, p, S, T, h => by
    simp only [stX]
    refine stX_eqv r X (p + 1) ?_
    cases X p
    · exact h
    · exact Eqv.apply h u

theorem stX_congr : ∀ (us : List Upd) (X Y : Nat → Bool) (p : Nat) (S : St), (∀ q, p ≤ q → q < p + us.length → X q = Y q) → stX us X p S = stX us Y p S
  | [], _, _, _, _, _ => rfl
  | u :: r, X, Y, p, S, h => by
    simp only [stX]
    rw [h p (Nat.le_refl _) (by simp)]
    exact stX_congr r X Y (p + 1) _ fun q h1 h2 => h q (by omega) (by simp at h2 ⊢; omega)

/-- an update later in place -/
theorem stX_late : ∀ (us : List Upd) (X : Nat → Bool) (p : Nat) (u : Upd), (∀ q v, us[q]? = some v → X (p + q) = true → Apart u v) → ∀ S, ((stX us X p S).apply u).Eqv (stX us X p (S.apply u))
  | [], _, _, _, _, S => .refl _
  | v :: r, X, p, u, h, S => by
    simp only [stX]
    have ih := stX_late r X (p + 1) u (fun q w hq hX => h (q + 1) w (by simpa using hq) (by rw [← hX]; congr 1; omega))
    cases hX : X p
    · exact ih S
    · exact (ih _).trans (stX_eqv r X (p + 1) ((h 0 v rfl (by simpa using hX)).comm S).symm)

def addX (X : Nat → Bool) (i : Nat) : Nat → Bool := fun q => X q || q == i

theorem stX_add : ∀ (us : List Upd) (X : Nat → Bool) (p i : Nat) (u : Upd), us[i]? = some u → X (p + i) = false → (∀ q v, us[q]? = some v → i < q → X (p + q) = true → Apart u v) →
    ∀ S, ((stX us X p S).apply u).Eqv (stX us (addX X (p + i)) p S)
  | [], _, _, _, _, hu, _, _, _ => by simp at hu
  | v :: r, X, p, 0, u, hu, hX, h, S => by
    simp at hu; subst hu
    simp only [stX]
    have e1 : addX X (p + 0) p = true := by simp [addX]
    rw [e1]
    simp only [Nat.add_zero] at hX
    rw [hX]
    simp only [Bool.false_eq_true, if_false, if_true]
    refine (stX_late r X (p + 1) v (fun q w hq hX' => h (q + 1) w (by simpa using hq) (by omega) (by rw [← hX']; congr 1; omega)) S).trans ?_
    rw [stX_congr r X (addX X (p + 0)) (p + 1) (S.apply v) (fun q h1 _ => by simp only [addX, Nat.add_zero]; have : (q == p) = false := by simp; omega
                                                                             simp [this])]
    exact .refl _
  | v :: r, X, p, i + 1, u, hu, hX, h, S => by
    simp only [stX]
    have e1 : addX X (p + (i + 1)) p = X p := by
      simp only [addX]; have : (p == p + (i + 1)) = false := by simp
      simp [this]
    rw [e1]
    have e2 : addX X (p + (i + 1)) = addX X (p + 1 + i) := by congr 1; omega
    rw [e2]
    exact stX_add r X (p + 1) i u (by simpa using hu) (by rw [← hX]; congr 1; omega) (fun q w hq hlt hX' => h (q + 1) w (by simpa using hq) (by omega) (by rw [← hX']; congr 1; omega)) _

/-- what a look at the state shows, if it looks at what differs nowhere -/
theorem stX_proj {α : Type} (f : St → α) (h1 : ∀ S T u, f S = f T → f (S.apply u) = f (T.apply u)) : ∀ (us : List Upd) (X Y : Nat → Bool) (p : Nat) (S T : St), f S = f T →
    (∀ q u, us[q]? = some u → X (p + q) ≠ Y (p + q) → ∀ S, f (S.apply u) = f S) → f (stX us X p S) = f (stX us Y p T)
  | [], _, _, _, _, _, h, _ => h
  | u :: r, X, Y, p, S, T, h, hd => by
    simp only [stX]
    refine stX_proj f h1 r X Y (p + 1) _ _ ?_ (fun q v hq hne => hd (q + 1) v (by simpa using hq) (by rw [show p + (q + 1) = p + 1 + q by omega]; exact hne))
    have h0 := hd 0 u rfl
    simp only [Nat.add_zero] at h0
    cases hX : X p <;> cases hY : Y p <;> simp only [Bool.false_eq_true, if_false, if_true]
    · exact h
    · exact h.trans (h0 (by rw [hX, hY]; simp) T).symm
    · exact (h0 (by rw [hX, hY]; simp) S).trans h
    · exact h1 _ _ _ h

theorem stX_take : ∀ (us : List Upd) (i p : Nat) (S : St), stX us (fun q => decide (q < p + i)) p S = (us.take i).foldl St.apply S
  | [], i, p, S => by simp [stX]
  | u :: r, 0, p, S => by
    simp only [stX, List.take_zero, List.foldl_nil, Nat.add_zero, Nat.lt_irrefl, decide_false, Bool.false_eq_true, if_false]
    have h0 : ∀ (us : List Upd) (p p' : Nat) (S : St), p ≤ p' → stX us (fun q => decide (q < p)) p' S = S := by
      intro us
      induction us with
      | nil => intros; rfl
      | cons v r ih =>
        intro p p' S hp
        simp only [stX]
        have : ¬ p' < p := by omega
        simp only [this, decide_false, Bool.false_eq_true, if_false]
        exact ih p (p' + 1) S (by omega)
    rw [h0 r p (p + 1) S (by omega)]
  | u :: r, i + 1, p, S => by
    simp only [stX, List.take_succ_cons, List.foldl_cons]
    have : p < p + (i + 1) := by omega
    simp only [this, decide_true, if_true]
    rw [← stX_take r i (p + 1) (S.apply u)]
    congr 1
    funext q
    congr 2
    omega
end Go.Hx
