/-
  A library of this claim, part 4: what each operation of the program does to abstract values and memory, proved once against the model; an engine over it that the kernel can run, and its soundness. No condition.
-/
import Derived.Test.YtkdmemhinolcnaaGreatDoorHx3
import Derived.Laws.Strings
/-
  Hx: the table of types: comparisons and keys.
-/
namespace Go.Hx
open Go

section
variable {P : Program} {C : Ctx}

theorem bool_val {v : V} {x : Value} {b : Bool} (hv : VR C v x) (hb : v.bool? = some b) : x = .bool b := by
  cases hv
  case raw h =>
    cases x <;> simp [V.bool?] at hb
    subst hb; rfl
  case tt => cases hb; rfl
  case ff => cases hb; rfl
  all_goals cases hb

theorem bytes_beq (a b : ByteArray) : (a == b) = (a.data.toList == b.data.toList) := by
  have : (a == b) = (a.data == b.data) := rfl
  rw [this, Bool.eq_iff_iff, beq_iff_eq, beq_iff_eq]
  exact ⟨fun e => by rw [e], fun e => Array.toList_inj.1 e⟩

theorem eq1_bool {v u : V} {a b r : Bool} (hv : v.bool? = some a) (hu : u.bool? = some b) (h : eq1 v u = some r) : r = (a == b) := by
  unfold eq1 at h
  split at h
  · cases hv
  · cases hv
  · rw [hv, hu] at h; exact (Option.some.inj h).symm

theorem equalIn_flat : ∀ (d t : Nat) (ks : List Kd), flat P d t = some ks → ∀ (D : Nat), d ≤ D → ∀ (cs ds : List V) (x y : Value) (b : Bool) (w : World), fitK ks cs = true → fitK ks ds = true → OfV C (isAggT P t) cs x → OfV C (isAggT P t) ds y → eqCells cs ds = some b →
    (Op.equalIn D t x y).run P w = .ok b w
  | 0, t, ks, h, _, _, _, _, _, _, _, _, _, _, _, _, _ => by cases h
  | d + 1, t, ks, h, 0, hD, _, _, _, _, _, _, _, _, _, _, _ => by omega
  | d + 1, t, ks, h, D + 1, hD, cs, ds, x, y, b, w, hcs, hds, hx, hy, he => by
    unfold flat at h
    split at h
    · -- a number
      rename_i inf k hi hu
      cases hb : Nat.beq inf.size 1 <;> rw [hb] at h <;> cases h
      have hA : isAggT P t = false := by unfold isAggT; rw [hu]
      rw [hA] at hx hy
      obtain ⟨v, rfl, hv⟩ := hx
      obtain ⟨u, rfl, hu'⟩ := hy
      have shape : ∀ {v : V}, fitK [.i k] [v] = true → ∃ n, v = .raw (.int k n) := fun {v} hf => by
        cases v
        case raw z =>
          cases z
          case int k' n =>
            rw [fitK_int] at hf
            simp only [Bool.and_eq_true] at hf
            have := hf.1
            simp only [eqKind, decide_eq_true_eq] at this
            subst this; exact ⟨n, rfl⟩
          all_goals cases hf
        all_goals cases hf
      obtain ⟨n, rfl⟩ := shape hcs
      obtain ⟨m, rfl⟩ := shape hds
      cases hv; cases hu'
      rw [eqCells_cons] at he
      simp only [eq1, decide_true, if_true, Option.bind_some, eqCells, Option.map_some, Bool.and_true, Option.some.injEq] at he
      subst he
      simp only [Op.equalIn, Sem.run_bind, rU hu, Result.andThen_ok, if_true, Sem.run_pure]
    · rename_i inf hi hu
      cases hb : Nat.beq inf.size 1 <;> rw [hb] at h <;> cases h
      have hA : isAggT P t = false := by unfold isAggT; rw [hu]
      rw [hA] at hx hy
      obtain ⟨v, rfl, hv⟩ := hx
      obtain ⟨u, rfl, hu'⟩ := hy
      rw [fitK_bool] at hcs hds
      simp only [Bool.and_eq_true] at hcs hds
      obtain ⟨a, ha⟩ := Option.isSome_iff_exists.1 hcs.1
      obtain ⟨c, hc⟩ := Option.isSome_iff_exists.1 hds.1
      have e1 := bool_val hv ha
      have e2 := bool_val hu' hc
      subst e1; subst e2
      rw [eqCells_cons] at he
      obtain ⟨r, hr, hr2⟩ := Option.bind_eq_some_iff.1 he
      have := eq1_bool ha hc hr
      subst this
      simp only [eqCells, Option.map_some, Bool.and_true, Option.some.injEq] at hr2
      subst hr2
      simp only [Op.equalIn, Sem.run_bind, rU hu, Result.andThen_ok, Sem.run_pure]
    · rename_i inf hi hu
      cases hb : Nat.beq inf.size 1 <;> rw [hb] at h <;> cases h
      have hA : isAggT P t = false := by unfold isAggT; rw [hu]
      rw [hA] at hx hy
      obtain ⟨v, rfl, hv⟩ := hx
      obtain ⟨u, rfl, hu'⟩ := hy
      have shape : ∀ {v : V}, fitK [.s] [v] = true → ∃ n, v = .raw (.string n) := fun {v} hf => by
        cases v
        case raw z =>
          cases z
          case string z => exact ⟨z, rfl⟩
          all_goals cases hf
        all_goals cases hf
      obtain ⟨n, rfl⟩ := shape hcs
      obtain ⟨m, rfl⟩ := shape hds
      cases hv; cases hu'
      rw [eqCells_cons] at he
      simp only [eq1, Option.bind_some, eqCells, Option.map_some, Bool.and_true, Option.some.injEq] at he
      subst he
      simp only [Op.equalIn, Sem.run_bind, rU hu, Result.andThen_ok, Sem.run_pure]
      rw [ByteArray.toList_eq, ByteArray.toList_eq, bytes_beq]
    · rename_i inf fs hi hu
      cases hs : P.stoodInHeld t <;> rw [hs] at h
      · dsimp only [cond_false] at h
        split at h
        · rename_i m hm
          cases hb : Nat.beq inf.size m.length <;> rw [hb] at h <;> cases h
          have hA : isAggT P t = true := by unfold isAggT; rw [hu]
          rw [hA] at hx hy
          obtain ⟨xs, rfl, hx⟩ := hx
          obtain ⟨ys, rfl, hy⟩ := hy
          -- the fields, from one on
          have key : ∀ (l : List Field) (off : Nat) (k2 : List Kd) (b : Bool), flatGo (flat P d) l off = some k2 → cs.length = off + k2.length → ds.length = off + k2.length → fitK k2 (cs.drop off) = true → fitK k2 (ds.drop off) = true →
              eqCells (cs.drop off) (ds.drop off) = some b → (eqFields D xs ys l).run P w = .ok b w := by
            intro l
            induction l with
            | nil =>
              intro off k2 b hg q1 q2 h1 h2 h3
              simp only [flatGo, Option.some.injEq] at hg
              subst hg
              have e1 : cs.drop off = [] := List.eq_nil_of_length_eq_zero (fitK_len h1)
              have e2 : ds.drop off = [] := List.eq_nil_of_length_eq_zero (fitK_len h2)
              rw [e1, e2] at h3
              simp only [eqCells, Option.some.injEq] at h3
              subst h3
              simp only [eqFields, Sem.run_pure]
            | cons f l ih =>
              intro off k2 b hg q1 q2 h1 h2 h3
              obtain ⟨ka, kb, hoff, hname, hf, hr, rfl⟩ := flatGo_cons hg
              obtain ⟨inf1, td1, hi1, hu1, hsz1, hag1⟩ := flat_info hf
              obtain ⟨f1, g1⟩ := fitK_append h1
              obtain ⟨f2, g2⟩ := fitK_append h2
              rw [List.length_append] at q1 q2
              obtain ⟨px, hpx, ox⟩ := part_run hi1 (by rw [hu1]; rfl) hsz1 hag1 hx (off := off) (by omega) w
              obtain ⟨py, hpy, oy⟩ := part_run hi1 (by rw [hu1]; rfl) hsz1 hag1 hy (off := off) (by omega) w
              rw [← List.take_append_drop ka.length (cs.drop off), ← List.take_append_drop ka.length (ds.drop off)] at h3
              obtain ⟨r1, r2, k1, k3, rfl⟩ := eqCells_append _ _ (by rw [fitK_len f1, fitK_len f2]) h3
              have he1 := equalIn_flat d f.type ka hf D (by omega) _ _ px py r1 w f1 f2 ox oy k1
              rw [List.drop_drop] at g1 g2 k3
              rw [List.drop_drop] at k3
              have he2 := ih (off + ka.length) kb r2 hr (by omega) (by omega) g1 g2 k3
              have hne : f.name ≠ "_" := by simpa using hname
              simp only [eqFields, hne, ne_eq, not_false_eq_true, if_true, hoff, Sem.run_bind, hpx, hpy, Result.andThen_ok, he1]
              cases r1
              · simp
              · simpa using he2
          have hn := fitK_len hcs
          have hn2 := fitK_len hds
          have := key fs.toList 0 ks b hm (by omega) (by omega) (by simpa using hcs) (by simpa using hds) (by simpa using he)
          rw [← eqFields_eq] at this
          rw [Op.equalIn]
          simp only [Sem.run_bind, rU hu, Result.andThen_ok, hs] at this ⊢
          simpa [program, Sem.run, hs] using this
        · cases h
      · cases h
    · cases h
end
end Go.Hx

/-
  Hx: the table of types: keys of maps; the look at the table.
-/
namespace Go.Hx
open Go

section
variable {P : Program}

theorem eqo_ok {d t : Nat} {ks : List Kd} (hd : d ≤ 10000) (h : flat P d t = some ks) (hA : isAggT P t = true) (hg : P.eqGuardType P.depth t = false) : EqoOK P t ks := by
  refine ⟨fun w op x y xs ys => ?_, fun C cs ds b xs ys w he h1 h2 s1 a1 s2 a2 => ?_⟩
  · unfold eqGuard
    by_cases hop : (!(match op with | .eql | .neq => true | _ => false)) = true
    · cases op <;> simp at hop <;> simp [Sem.run_pure]
    · cases op <;> simp at hop <;> simp [program, Sem.run, Sem.run_bind, hg]
  · exact equalIn_flat d t ks h Op.maxDepth hd cs ds _ _ b w h1 h2 (by rw [hA]; exact ⟨xs, rfl, s1, a1⟩) (by rw [hA]; exact ⟨ys, rfl, s2, a2⟩) he

/-- a key's cells are looked at -/
theorem checkKey_flat : ∀ (d t : Nat) (ks : List Kd), flat P d t = some ks → ∀ (D : Nat), d ≤ D → ∀ (C : Ctx) (cs : List V) (x : Value) (em : Bool) (w : World), cs.length = ks.length → OfV C (isAggT P t) cs x → (Instr.checkKey em D t x).run P w = .ok () w
  | 0, t, ks, h, _, _, _, _, _, _, _, _, _ => by cases h
  | d + 1, t, ks, h, 0, hD, _, _, _, _, _, _, _ => by omega
  | d + 1, t, ks, h, D + 1, hD, C, cs, x, em, w, hl, hx => by
    unfold flat at h
    split at h
    · rename_i inf k hi hu
      simp only [Instr.checkKey, Sem.run_bind, rU hu, Result.andThen_ok]
      cases x <;> rfl
    · rename_i inf hi hu
      simp only [Instr.checkKey, Sem.run_bind, rU hu, Result.andThen_ok]
      cases x <;> rfl
    · rename_i inf hi hu
      simp only [Instr.checkKey, Sem.run_bind, rU hu, Result.andThen_ok]
      cases x <;> rfl
    · rename_i inf fs hi hu
      cases hs : P.stoodInHeld t <;> rw [hs] at h
      · dsimp only [cond_false] at h
        split at h
        · rename_i m hm
          cases hb : Nat.beq inf.size m.length <;> rw [hb] at h <;> cases h
          have hA : isAggT P t = true := by unfold isAggT; rw [hu]
          rw [hA] at hx
          obtain ⟨xs, rfl, hx⟩ := hx
          simp only [Instr.checkKey, Sem.run_bind, rU hu, Result.andThen_ok]
          simp only [← Array.forIn_toList]
          have key : ∀ (l : List Field) (off : Nat) (k2 : List Kd), flatGo (flat P d) l off = some k2 → cs.length = off + k2.length →
              (do for f in l do if f.name ≠ "_" then Instr.checkKey em D f.type (← part f.type xs f.offset) : Sem Unit).run P w = .ok () w := by
            intro l
            induction l with
            | nil => intro off k2 _ _; simp
            | cons f l ih =>
              intro off k2 hg q1
              obtain ⟨ka, kb, hoff, hname, hf, hr, rfl⟩ := flatGo_cons hg
              obtain ⟨inf1, td1, hi1, hu1, hsz1, hag1⟩ := flat_info hf
              rw [List.length_append] at q1
              obtain ⟨px, hpx, ox⟩ := part_run hi1 (by rw [hu1]; rfl) hsz1 hag1 hx (off := off) (by omega) w
              have h1 := checkKey_flat d f.type ka hf D (by omega) C _ px em w (by rw [List.length_take, List.length_drop]; omega) ox
              have h2 := ih (off + ka.length) kb hr (by omega)
              have hne : f.name ≠ "_" := by simpa using hname
              simp only [List.forIn_cons, hne, ne_eq, not_false_eq_true, if_true, hoff, Sem.run_bind, hpx, Result.andThen_ok, h1, Sem.run_pure] at h2 ⊢
              simpa using h2
          have := key fs.toList 0 ks hm (by omega)
          simp at this ⊢
          rw [this]; rfl
        · cases h
      · cases h
    · cases h

/-- all whole numbers -/
def intKs (ks : List Kd) : Bool := ks.all fun k => match k with | .i .i64 => true | _ => false

theorem fitK_ints : ∀ {ks : List Kd} {cs : List V}, intKs ks = true → cs.length = ks.length → (cs.all fun v => match v with | .raw (.int .i64 _) => true | _ => false) = true → fitK ks cs = true
  | [], [], _, _, _ => rfl
  | [], _ :: _, _, h, _ => by simp at h
  | _ :: _, [], _, h, _ => by simp at h
  | k :: ks, v :: cs, h1, h2, h3 => by
    simp only [intKs, List.all_cons, Bool.and_eq_true] at h1 h3
    have ih := fitK_ints (ks := ks) (cs := cs) h1.2 (by simpa using h2) h3.2
    obtain ⟨h1, -⟩ := h1
    obtain ⟨h3, -⟩ := h3
    split at h1
    · split at h3
      · rw [fitK_int]; simp [eqKind, ih]
      · cases h3
    · cases h1

theorem eqCells_ints : ∀ {cs ds : List V}, cs.length = ds.length → (cs.all fun v => match v with | .raw (.int .i64 _) => true | _ => false) = true → (ds.all fun v => match v with | .raw (.int .i64 _) => true | _ => false) = true → ∃ b, eqCells cs ds = some b
  | [], [], _, _, _ => ⟨true, rfl⟩
  | [], _ :: _, h, _, _ => by simp at h
  | _ :: _, [], h, _, _ => by simp at h
  | v :: cs, u :: ds, h, h1, h2 => by
    simp only [List.all_cons, Bool.and_eq_true] at h1 h2
    obtain ⟨b, hb⟩ := eqCells_ints (cs := cs) (ds := ds) (by simpa using h) h1.2 h2.2
    obtain ⟨h1, -⟩ := h1
    obtain ⟨h2, -⟩ := h2
    split at h1
    · split at h2
      · rw [eqCells_cons]; simp [eq1, hb]
      · cases h2
    · cases h1

theorem keyOk_zero {k : V} (h : keyOk 0 k = true) : ∃ n, k = .raw (.int .i64 n) := by
  unfold keyOk at h
  split at h
  · exact ⟨_, rfl⟩
  · simp at h
  · cases h

theorem keyOk_agg {ar : Nat} (har : ar ≠ 0) {k : V} (h : keyOk ar k = true) : ∃ cs, k = .agg cs ∧ cs.length = ar ∧ (cs.all fun v => match v with | .raw (.int .i64 _) => true | _ => false) = true := by
  unfold keyOk at h
  split at h
  · simp only [beq_iff_eq] at h; exact absurd h har
  · simp only [Bool.and_eq_true, beq_iff_eq] at h
    exact ⟨_, rfl, h.1.1.symm, h.2⟩
  · cases h

theorem findAsking_run {kt ar : Nat} (heq : ∀ (C : Ctx) (k k' : V) (x x' : Value) (w : World), keyOk ar k = true → keyOk ar k' = true → VR C k x → VR C k' x' → (Op.equal kt x x').run P w = .ok (keyEq k k') w) (C : Ctx) (k : V) (x : Value) (hk : keyOk ar k = true) (hx : VR C k x) :
    ∀ (es : List (V × V)) (l : List MapEntry) (i : Nat) (w : World), es.length = l.length → (∀ (i : Nat) k' v', es[i]? = some (k', v') → ∃ e : MapEntry, l[i]? = some e ∧ keyOk ar k' = true ∧ VR C k' e.key) →
      (Instr.findAsking kt x l i).run P w = .ok ((idxK es k i).bind fun j => (l[j - i]?).map fun e => (j, e.val)) w ∧ ∀ j, idxK es k i = some j → i ≤ j
  | [], [], i, w, _, _ => by simp [Instr.findAsking, idxK]
  | [], _ :: _, _, _, h, _ => by simp at h
  | _ :: _, [], _, _, h, _ => by simp at h
  | (k', v') :: es, e :: l, i, w, hl, hf => by
    obtain ⟨e', he', hk', hv'⟩ := hf 0 k' v' rfl
    simp at he'; subst he'
    have h1 := heq C k k' x e.key w hk hk' hx hv'
    obtain ⟨ih, ihj⟩ := findAsking_run heq C k x hk hx es l (i + 1) w (by simpa using hl) (fun j a b hj => by
      obtain ⟨e2, q1, q2⟩ := hf (j + 1) a b (by simpa using hj)
      exact ⟨e2, by simpa using q1, q2⟩)
    simp only [Instr.findAsking, Sem.run_bind, h1, Result.andThen_ok, idxK]
    cases hke : keyEq k k'
    · simp only [Bool.false_eq_true, if_false]
      refine ⟨?_, fun j hj => by have := ihj j hj; omega⟩
      rw [ih]
      congr 1
      cases hidx : idxK es k (i + 1) with
      | none => rfl
      | some j =>
        have := ihj j hidx
        simp only [Option.bind_some]
        rw [show j - i = (j - (i + 1)) + 1 by omega]
        simp
    · simp only [if_true, Sem.run_pure]
      refine ⟨by simp, fun j hj => Nat.le_of_eq (Option.some.inj hj)⟩

theorem sameBits_int : ∀ (n : Nat) (k : IntKind) (a : Int), Instr.sameBits n (.int k a) (.int k a) = true := by
  intro n k a
  have h : (k == k && a == a) = true := by rw [beq_self_eq_true, beq_self_eq_true]; rfl
  cases n <;> exact h

/-- a map's keys: whole numbers, or rows of them -/
theorem key_int {kt : Nat} (hu : P.underlying kt = some (.int .i64)) : KeyOK P kt 0 := by
  refine ⟨fun C k x em w hk hx => ?_, fun C k x es l w hk hx hl hf => ?_, fun C k k' x x' w hk hk' he hx hx' => ?_⟩
  · obtain ⟨n, rfl⟩ := keyOk_zero hk
    cases hx
    have step : ∀ D, (Instr.checkKey em (D + 1) kt (.int .i64 n)).run P w = .ok () w := fun D => by
      simp only [Instr.checkKey, Sem.run_bind, rU hu, Result.andThen_ok]
      rfl
    exact step 9999
  · obtain ⟨n, rfl⟩ := keyOk_zero hk
    cases hx
    simp only [Instr.findKey, Sem.run_bind, rU hu, Result.andThen_ok]
    have key : ∀ (es : List (V × V)) (l : List MapEntry) (i : Nat), es.length = l.length → (∀ (i : Nat) k' v', es[i]? = some (k', v') → ∃ e : MapEntry, l[i]? = some e ∧ keyOk 0 k' = true ∧ VR C k' e.key) →
        Instr.findNow (.int .i64) (.int .i64 n) l i = some ((idxK es (.raw (.int .i64 n)) i).bind fun j => (l[j - i]?).map fun e => (j, e.val)) ∧ ∀ j, idxK es (.raw (.int .i64 n)) i = some j → i ≤ j := by
      intro es
      induction es with
      | nil => intro l i hl _; cases l with
        | nil => simp [Instr.findNow, idxK]
        | cons _ _ => simp at hl
      | cons p es ih =>
        intro l i hl hf
        obtain ⟨k', v'⟩ := p
        cases l with
        | nil => simp at hl
        | cons e l =>
          obtain ⟨e', he', hk', hv'⟩ := hf 0 k' v' rfl
          simp at he'; subst he'
          obtain ⟨m, rfl⟩ := keyOk_zero hk'
          generalize hek : e.key = ek at hv'
          cases hv'
          obtain ⟨ih1, ih2⟩ := ih l (i + 1) (by simpa using hl) (fun j a b hj => by
            obtain ⟨e2, q1, q2⟩ := hf (j + 1) a b (by simpa using hj)
            exact ⟨e2, by simpa using q1, q2⟩)
          have hke : keyEq (.raw (.int .i64 n)) (.raw (.int .i64 m)) = (n == m) := by
            unfold keyEq V.cells
            rw [eqCells_cons]
            simp [eq1, eqCells]
          simp only [Instr.findNow, hek, Instr.sameNow, if_true, idxK, hke]
          cases hnm : (n == m)
          · simp only [Bool.false_eq_true, if_false]
            refine ⟨?_, fun j hj => by have := ih2 j hj; omega⟩
            rw [ih1]
            congr 1
            cases hidx : idxK es (.raw (.int .i64 n)) (i + 1) with
            | none => rfl
            | some j =>
              have := ih2 j hidx
              simp only [Option.bind_some]
              rw [show j - i = (j - (i + 1)) + 1 by omega]
              simp
          · simp only [if_true]
            refine ⟨by simp, fun j hj => Nat.le_of_eq (Option.some.inj hj)⟩
    rw [(key es l 0 hl hf).1]
    simp [Sem.run_pure]
  · obtain ⟨n, rfl⟩ := keyOk_zero hk
    obtain ⟨m, rfl⟩ := keyOk_zero hk'
    cases hx; cases hx'
    have : n = m := by
      unfold keyEq V.cells at he
      rw [eqCells_cons] at he
      simp [eq1, eqCells] at he
      exact he
    subst this
    simp [Instr.keyThatStays, sameBits_int, Sem.run_pure]

theorem key_row {d kt : Nat} {ks : List Kd} (hd : d ≤ 10000) (h : flat P d kt = some ks) (hA : isAggT P kt = true) (hk : intKs ks = true) (hne : ks ≠ []) : KeyOK P kt ks.length := by
  have har : ks.length ≠ 0 := fun e => hne (List.eq_nil_of_length_eq_zero e)
  have heq : ∀ (C : Ctx) (k k' : V) (x x' : Value) (w : World), keyOk ks.length k = true → keyOk ks.length k' = true → VR C k x → VR C k' x' → (Op.equal kt x x').run P w = .ok (keyEq k k') w := by
    intro C k k' x x' w h1 h2 hx hx'
    obtain ⟨cs, rfl, l1, i1⟩ := keyOk_agg har h1
    obtain ⟨ds, rfl, l2, i2⟩ := keyOk_agg har h2
    obtain ⟨b, hb⟩ := eqCells_ints (by omega) i1 i2
    have : keyEq (.agg cs) (.agg ds) = b := by unfold keyEq V.cells; rw [hb]
    rw [this]
    cases hx with
    | agg vals s1 q1 v1 c1 =>
      cases hx' with
      | agg vals' s2 q2 v2 c2 =>
        rename_i arr arr'
        have r1 : OfV C true cs (.agg arr) := ⟨arr, rfl, s1, fun i v hv => ⟨vals i, q1 i (getE hv), v1 i v hv⟩⟩
        have r2 : OfV C true ds (.agg arr') := ⟨arr', rfl, s2, fun i v hv => ⟨vals' i, q2 i (getE hv), v2 i v hv⟩⟩
        exact equalIn_flat d kt ks h Op.maxDepth hd cs ds _ _ b w (fitK_ints hk l1 i1) (fitK_ints hk l2 i2) (by rw [hA]; exact r1) (by rw [hA]; exact r2) hb
  refine ⟨fun C k x em w h1 hx => ?_, fun C k x es l w h1 hx hl hf => ?_, fun C k k' x x' w h1 h2 he hx hx' => ?_⟩
  · obtain ⟨cs, rfl, l1, i1⟩ := keyOk_agg har h1
    cases hx with
    | agg vals s1 q1 v1 c1 =>
      rename_i arr
      have r1 : OfV C true cs (.agg arr) := ⟨arr, rfl, s1, fun i v hv => ⟨vals i, q1 i (getE hv), v1 i v hv⟩⟩
      exact checkKey_flat d kt ks h 10000 hd C cs _ em w l1 (by rw [hA]; exact r1)
  · obtain ⟨h2, -⟩ := findAsking_run heq C k x h1 hx es l 0 w hl hf
    simp only [Nat.sub_zero] at h2
    obtain ⟨inf, td, hi, hu, -, -⟩ := flat_info h
    have hstr : ∃ fs, td = .struct fs := by
      unfold isAggT at hA
      unfold flat at h
      cases d with
      | zero => cases h
      | succ d =>
        simp only [hi, hu] at h hA
        cases td <;> simp at hA
        all_goals first | exact ⟨_, rfl⟩ | cases h
    obtain ⟨fs, rfl⟩ := hstr
    simp only [Instr.findKey, Sem.run_bind, rU hu, Result.andThen_ok]
    cases l with
    | nil =>
      cases es with
      | nil => simp [Instr.findNow, idxK, Sem.run_pure]
      | cons _ _ => simp at hl
    | cons e l =>
      have : Instr.findNow (.struct fs) x (e :: l) 0 = none := by simp [Instr.findNow, Instr.sameNow]
      rw [this]
      exact h2
  · obtain ⟨cs, rfl, l1, i1⟩ := keyOk_agg har h1
    obtain ⟨ds, rfl, l2, i2⟩ := keyOk_agg har h2
    have hcd : cs = ds := by
      refine eqInts_eq cs ds i1 i2 ?_
      unfold keyEq V.cells at he
      cases hb : eqCells cs ds with
      | none => rw [hb] at he; cases he
      | some b => rw [hb] at he; dsimp only at he; rw [he]
    subst hcd
    cases hx with
    | agg vals s1 q1 v1 c1 =>
      cases hx' with
      | agg vals' s2 q2 v2 c2 =>
        rename_i arr arr'
        have hee : arr = arr' := by
          apply Array.ext (by omega)
          intro i hi hi'
          have hlt : i < cs.length := by omega
          have a1 := q1 i hlt; have a2 := q2 i hlt
          have b1 := v1 i cs[i] (by simp [hlt]); have b2 := v2 i cs[i] (by simp [hlt])
          have hint := List.all_eq_true.1 i1 cs[i] (List.getElem_mem hlt)
          have e3 : vals i = vals' i := by
            split at hint
            · rename_i n hn
              rw [hn] at b1 b2
              have g1 : vals i = .int .i64 n := by generalize vals i = z at b1; cases b1; rfl
              have g2 : vals' i = .int .i64 n := by generalize vals' i = z at b2; cases b2; rfl
              rw [g1, g2]
            · cases hint
          rw [Array.getElem?_eq_getElem hi] at a1
          rw [Array.getElem?_eq_getElem hi'] at a2
          rw [Option.some.inj a1, Option.some.inj a2, e3]
        subst hee
        have hall : (arr.toList.zip arr.toList).all (fun (x, y) => Instr.sameBits 9999 x y) = true := by
          rw [List.all_eq_true]
          rintro ⟨x, y⟩ hxy
          have hxy2 : x = y ∧ x ∈ arr.toList := by
            rw [List.zip_eq_zipWith] at hxy
            obtain ⟨i, hi, e⟩ := List.mem_iff_getElem.1 hxy
            simp at e
            exact ⟨e.1.symm.trans e.2, by rw [← e.1]; simp⟩
          obtain ⟨rfl, hm⟩ := hxy2
          obtain ⟨i, hi, rfl⟩ := List.mem_iff_getElem.1 hm
          have hi' : i < arr.size := by simpa using hi
          have hlt : i < cs.length := by omega
          have a1 := q1 i hlt
          have b1 := v1 i cs[i] (by simp [hlt])
          have hint := List.all_eq_true.1 i1 cs[i] (List.getElem_mem hlt)
          rw [Array.getElem?_eq_getElem hi'] at a1
          simp only [Array.getElem_toList, Option.some.inj a1]
          split at hint
          · rename_i n hn
            rw [hn] at b1
            have g1 : vals i = .int .i64 n := by generalize vals i = z at b1; cases b1; rfl
            rw [g1]
            exact sameBits_int _ _ _
          · cases hint
        simp only [Instr.keyThatStays, Instr.sameBits, beq_self_eq_true, Bool.true_and, hall, if_true, Sem.run_pure]
end
end Go.Hx

/-
  Hx: the table of types, looked at by the kernel.
-/
namespace Go.Hx
open Go

def zOne : V → Value → Bool
  | .raw .nilFunc, .nilFunc => true
  | .raw a, b => beqVal a b
  | .tt, .bool b => b
  | .ff, .bool b => !b
  | .sl _ [] _, .slice none 0 0 => true
  | _, _ => false

def zOK : List V → List Value → Bool
  | [], [] => true
  | v :: r, x :: s => zOne v x && zOK r s
  | _, _ => false

theorem beqVal_one {a b : Value} (h : beqVal a b = true) : one a = true := by
  cases a <;> first | rfl | (cases h; done)

theorem zOne_spec {v : V} {x : Value} (h : zOne v x = true) : v.cell = true ∧ (∀ C, VR C v x) ∧ ∀ perm M p, Rt perm M p v x := by
  unfold zOne at h
  split at h
  · exact ⟨rfl, fun C => .raw rfl, fun _ _ _ => by unfold Rt; trivial⟩
  · rename_i a b _
    have ho := beqVal_one h
    have e := beqVal_eq h
    subst e
    exact ⟨rfl, fun C => .raw ho, fun _ _ _ => by unfold Rt; trivial⟩
  · subst h; exact ⟨rfl, fun C => .tt, fun _ _ _ => by unfold Rt; trivial⟩
  · simp only [Bool.not_eq_true'] at h; subst h; exact ⟨rfl, fun C => .ff, fun _ _ _ => by unfold Rt; trivial⟩
  · exact ⟨rfl, fun C => .slnil, fun _ _ _ => by unfold Rt; trivial⟩
  · cases h

theorem zOK_spec : ∀ {zs : List V} {xs : List Value}, zOK zs xs = true → xs.length = zs.length ∧ ∀ (i : Nat) v, zs[i]? = some v → ∃ x, xs[i]? = some x ∧ zOne v x = true
  | [], [], _ => ⟨rfl, fun i v h => by simp at h⟩
  | [], _ :: _, h => by simp [zOK] at h
  | _ :: _, [], h => by simp [zOK] at h
  | v :: r, x :: s, h => by
    simp only [zOK, Bool.and_eq_true] at h
    obtain ⟨h1, h2⟩ := zOK_spec h.2
    refine ⟨by simp [h1], fun i u hu => ?_⟩
    cases i with
    | zero => simp at hu; subst hu; exact ⟨x, rfl, h.1⟩
    | succ i => simpa using h2 i u (by simpa using hu)

def sizeIs (P : Program) (t n : Nat) : Bool := match P.info? t with | some inf => Nat.beq inf.size n | none => false

theorem sizeIs_spec {P : Program} {t n : Nat} (h : sizeIs P t n = true) : ∃ inf, P.info? t = some inf ∧ inf.size = n := by
  unfold sizeIs at h
  split at h
  · rename_i inf hi; exact ⟨inf, hi, Nat.eq_of_beq_eq_true h⟩
  · cases h

def fieldsOK (P : Program) : List Field → List (Nat × Nat × Nat) → Bool
  | [], [] => true
  | fd :: r, f :: s => Nat.beq fd.offset f.1 && Nat.beq fd.type f.2.2 && sizeIs P fd.type f.2.1 && fieldsOK P r s
  | _, _ => false

theorem fieldsOK_spec {P : Program} : ∀ {fds : List Field} {fs : List (Nat × Nat × Nat)}, fieldsOK P fds fs = true → fds.length = fs.length ∧ ∀ (j : Nat) f, fs[j]? = some f → ∃ fd : Field, fds[j]? = some fd ∧ fd.offset = f.1 ∧ fd.type = f.2.2 ∧ ∃ inf, P.info? fd.type = some inf ∧ inf.size = f.2.1
  | [], [], _ => ⟨rfl, fun j f h => by simp at h⟩
  | [], _ :: _, h => by simp [fieldsOK] at h
  | _ :: _, [], h => by simp [fieldsOK] at h
  | fd :: r, f :: s, h => by
    simp only [fieldsOK, Bool.and_eq_true] at h
    obtain ⟨h1, h2⟩ := fieldsOK_spec h.2
    refine ⟨by simp [h1], fun j g hg => ?_⟩
    cases j with
    | zero => simp at hg; subst hg; exact ⟨fd, rfl, Nat.eq_of_beq_eq_true h.1.1.1, Nat.eq_of_beq_eq_true h.1.1.2, sizeIs_spec h.1.2⟩
    | succ j => simpa using h2 j g (by simpa using hg)

def shOK (P : Program) (t : Nat) : Sh → Bool
  | .int k => match P.underlying t with | some (.int k') => eqKind k k' | _ => false
  | .bool => match P.underlying t with | some .bool => true | _ => false
  | .str => match P.underlying t with | some .string => true | _ => false
  | .slice e k => match P.underlying t with | some (.slice e') => Nat.beq e e' && sizeIs P e k | _ => false
  | .arr n e k => match P.underlying t with | some (.array n' e') => Nat.beq n n' && Nat.beq e e' && sizeIs P e k | _ => false
  | .struct fs => match P.underlying t with | some (.struct fds) => fieldsOK P fds.toList fs | _ => false
  | .ptr => match P.underlying t with | some (.pointer _) => true | _ => false
  | .map k e => match P.underlying t with | some (.map k' e') => Nat.beq k k' && Nat.beq e e' | _ => false
  | .fn => true
  | .other => true

def beqKs : List Kd → List Kd → Bool
  | [], [] => true
  | .i k :: r, .i k' :: s => eqKind k k' && beqKs r s
  | .b :: r, .b :: s => beqKs r s
  | .s :: r, .s :: s => beqKs r s
  | _, _ => false

theorem beqKs_eq : ∀ {a b : List Kd}, beqKs a b = true → a = b := by
  intro a
  induction a with
  | nil => intro b h; cases b with | nil => rfl | cons _ _ => cases h
  | cons k r ih =>
    intro b h
    cases b with
    | nil => cases k <;> cases h
    | cons k' s =>
      cases k <;> cases k' <;> first | (cases h; done) | skip
      · rename_i k k'
        have h' : (eqKind k k' && beqKs r s) = true := h
        simp only [Bool.and_eq_true, eqKind, decide_eq_true_eq] at h'
        rw [h'.1, ih h'.2]
      · have h' : beqKs r s = true := h
        rw [ih h']
      · have h' : beqKs r s = true := h
        rw [ih h']

def eqoChk (P : Program) (t : Nat) : Option (List Kd) → Bool
  | none => true
  | some ks => (match flat P 20 t with | some ks' => beqKs ks' ks | none => false) && isAggT P t && !P.eqGuardType P.depth t

def keyChk (P : Program) (E : Env) (k : Nat) : Bool :=
  match (E.ti k).agg with
  | false => match P.underlying k with | some (.int .i64) => true | _ => false
  | true => match flat P 20 k with | some ks => isAggT P k && intKs ks && Nat.beq ks.length (E.ti k).size && !ks.isEmpty | none => false

def zeroChk (i : TI) (z : Value) : Bool :=
  zOK i.zero z.cells.toList && (match i.agg with
    | true => (match z with | .agg _ => true | _ => false)
    | false => one z)

def infoChk (P : Program) (t : Nat) (i : TI) : Bool :=
  match P.info? t with
  | some inf => Nat.beq inf.size i.size && Nat.beq inf.bytes i.bytes && (match inf.zero with | some z => zeroChk i z | none => false)
  | none => false

def sameB : Bool → Bool → Bool
  | true, true => true
  | false, false => true
  | _, _ => false

def bodyChk (P : Program) (t : Nat) (i : TI) : Bool :=
  infoChk P t i && Nat.beq i.zero.length i.size && sameB i.agg (isAggT P t) && (P.underlying t).isSome && shOK P t i.sh

def isOther : Sh → Bool
  | .other => true
  | _ => false

def mapChk (P : Program) (E : Env) : Sh → Bool
  | .map k _ => keyChk P E k
  | _ => true

def tiChk (P : Program) (E : Env) (t : Nat) (i : TI) : Bool :=
  (isOther i.sh || bodyChk P t i) && eqoChk P t i.eqo && mapChk P E i.sh

section
variable {P : Program} {E : Env} {t : Nat} {i : TI}

theorem tiChk_ok (h : tiChk P E t i = true) (hok : i.ok = true) : TIok P t i := by
  simp only [tiChk, Bool.and_eq_true, Bool.or_eq_true] at h
  obtain ⟨⟨h, -⟩, -⟩ := h
  have hb : bodyChk P t i = true := by
    rcases h with h | h
    · unfold TI.ok at hok
      cases hs : i.sh <;> rw [hs] at h hok <;> first | (cases hok; done) | (cases h; done)
    · exact h
  simp only [bodyChk, Bool.and_eq_true] at hb
  obtain ⟨⟨⟨⟨a1, a2⟩, a3⟩, a4⟩, a5⟩ := hb
  have hagg : i.agg = isAggT P t := by
    cases h1 : i.agg <;> cases h2 : isAggT P t <;> simp [h1, h2, sameB] at a3 ⊢
  refine ⟨?_, by rw [hagg]; rfl, a4, ?_⟩
  · unfold infoChk at a1
    split at a1
    · rename_i inf hi
      simp only [Bool.and_eq_true] at a1
      obtain ⟨⟨b1, b2⟩, b3⟩ := a1
      split at b3
      · rename_i z hz
        simp only [zeroChk, Bool.and_eq_true] at b3
        obtain ⟨c1, c2⟩ := b3
        obtain ⟨d1, d2⟩ := zOK_spec c1
        refine ⟨inf, hi, Nat.eq_of_beq_eq_true b1, Nat.eq_of_beq_eq_true b2, z, hz, ⟨by simpa using d1, fun j v hv => ?_⟩, Nat.eq_of_beq_eq_true a2, fun hA => ?_, fun hA => ?_⟩
        · obtain ⟨x, hx, hzo⟩ := d2 j v hv
          obtain ⟨e1, e2, e3⟩ := zOne_spec hzo
          exact ⟨e1, x, by simpa using hx, e2, e3⟩
        · rw [hA] at c2
          cases z <;> first | exact ⟨_, rfl⟩ | cases c2
        · rw [hA] at c2; exact c2
      · cases b3
    · cases a1
  · unfold shOK at a5
    split at a5 <;> rename_i hs <;> rw [hs] <;> dsimp only
    · split at a5
      · rename_i k' hu; simp only [eqKind, decide_eq_true_eq] at a5; rw [hu, a5]
      · cases a5
    · split at a5
      · rename_i hu; exact hu
      · cases a5
    · split at a5
      · rename_i hu; exact hu
      · cases a5
    · split at a5
      · rename_i e' hu
        simp only [Bool.and_eq_true] at a5
        rw [hu, Nat.eq_of_beq_eq_true a5.1]
        have := sizeIs_spec a5.2
        rw [Nat.eq_of_beq_eq_true a5.1] at this
        exact ⟨rfl, this⟩
      · cases a5
    · split at a5
      · rename_i n' e' hu
        simp only [Bool.and_eq_true] at a5
        rw [hu, Nat.eq_of_beq_eq_true a5.1.1, Nat.eq_of_beq_eq_true a5.1.2]
        have := sizeIs_spec a5.2
        rw [Nat.eq_of_beq_eq_true a5.1.2] at this
        exact ⟨rfl, this⟩
      · cases a5
    · split at a5
      · rename_i fds hu
        obtain ⟨f1, f2⟩ := fieldsOK_spec a5
        refine ⟨fds, hu, by simpa using f1, fun j f hf => ?_⟩
        obtain ⟨fd, g1, g2⟩ := f2 j f hf
        exact ⟨fd, by simpa using g1, g2⟩
      · cases a5
    · split at a5
      · rename_i e hu; exact ⟨e, hu⟩
      · cases a5
    · split at a5
      · rename_i k' e' hu
        simp only [Bool.and_eq_true] at a5
        rw [hu, Nat.eq_of_beq_eq_true a5.1, Nat.eq_of_beq_eq_true a5.2]
      · cases a5

theorem tiChk_eqo (h : tiChk P E t i = true) {ks : List Kd} (he : i.eqo = some ks) : EqoOK P t ks := by
  simp only [tiChk, Bool.and_eq_true] at h
  obtain ⟨⟨-, h⟩, -⟩ := h
  rw [he] at h
  simp only [eqoChk, Bool.and_eq_true, Bool.not_eq_true'] at h
  obtain ⟨⟨h1, h2⟩, h3⟩ := h
  split at h1
  · rename_i ks' hf
    have := beqKs_eq h1
    subst this
    exact eqo_ok (d := 20) (by omega) hf h2 h3
  · cases h1

theorem keyChk_ok {k : Nat} (h : keyChk P E k = true) : KeyOK P k (arOf E k) := by
  unfold keyChk at h
  unfold arOf
  split at h
  · rename_i ha
    rw [ha]
    split at h
    · rename_i hu; exact key_int hu
    · cases h
  · rename_i ha
    rw [ha]
    split at h
    · rename_i ks hf
      simp only [Bool.and_eq_true, Bool.not_eq_true', List.isEmpty_eq_false_iff] at h
      obtain ⟨⟨⟨h1, h2⟩, h3⟩, h4⟩ := h
      simp only [if_true]
      rw [← Nat.eq_of_beq_eq_true h3]
      exact key_row (d := 20) (by omega) hf h1 h2 h4
    · cases h
end

def Tr.all {α : Type} (f : Nat → α → Bool) : Tr α → Bool
  | .leaf => true
  | .node l k v r => l.all f && f k v && r.all f

theorem Tr.all_get {α : Type} {f : Nat → α → Bool} : ∀ (T : Tr α), T.all f = true → ∀ (t : Nat) (i : α), T.get t = some i → f t i = true
  | .leaf, _, t, i, h => by cases h
  | .node l k v r, ha, t, i, h => by
    simp only [Tr.all, Bool.and_eq_true] at ha
    simp only [Tr.get] at h
    cases hb : Nat.beq t k
    · rw [hb] at h
      simp only [cond_false] at h
      cases hc : Nat.blt t k
      · rw [hc] at h; exact Tr.all_get r ha.2 t i h
      · rw [hc] at h; exact Tr.all_get l ha.1.1 t i h
    · rw [hb] at h
      simp only [cond_true, Option.some.injEq] at h
      rw [← h, Nat.eq_of_beq_eq_true hb]
      exact ha.1.2

def Tr.AllP {α : Type} (p : Nat → α → Prop) : Tr α → Prop
  | .leaf => True
  | .node l k v r => l.AllP p ∧ p k v ∧ r.AllP p

theorem Tr.allP_get {α : Type} {p : Nat → α → Prop} : ∀ (T : Tr α), T.AllP p → ∀ (t : Nat) (i : α), T.get t = some i → p t i
  | .leaf, _, t, i, h => by cases h
  | .node l k v r, ha, t, i, h => by
    simp only [Tr.get] at h
    cases hb : Nat.beq t k
    · rw [hb] at h
      simp only [cond_false] at h
      cases hc : Nat.blt t k
      · rw [hc] at h; exact Tr.allP_get r ha.2.2 t i h
      · rw [hc] at h; exact Tr.allP_get l ha.1 t i h
    · rw [hb] at h
      simp only [cond_true, Option.some.injEq] at h
      rw [← h, Nat.eq_of_beq_eq_true hb]
      exact ha.2.1

theorem Tr.allP_node {α : Type} {p : Nat → α → Prop} {l r : Tr α} {k : Nat} {v : α} (h1 : l.AllP p) (h2 : p k v) (h3 : r.AllP p) : (Tr.node l k v r).AllP p := ⟨h1, h2, h3⟩

def envOf (T : Tr TI) : Env := ⟨fun t => match T.get t with | some i => i | none => {}⟩

theorem envOf_ok {P : Program} {T : Tr TI} (h : T.all (tiChk P (envOf T)) = true) : EnvM P (envOf T) := by
  have hg : ∀ t, (∃ i, T.get t = some i ∧ (envOf T).ti t = i ∧ tiChk P (envOf T) t i = true) ∨ (envOf T).ti t = {} := fun t => by
    cases hq : T.get t with
    | none => right; simp only [envOf, hq]
    | some i => left; exact ⟨i, rfl, by simp only [envOf, hq], Tr.all_get T h t i hq⟩
  refine ⟨⟨fun t hok => ?_, fun t ks he => ?_⟩, fun t k e hs => ?_⟩
  · rcases hg t with ⟨i, -, e, hc⟩ | e
    · rw [e] at hok ⊢; exact tiChk_ok hc hok
    · rw [e] at hok; cases hok
  · rcases hg t with ⟨i, -, e, hc⟩ | e
    · rw [e] at he; exact tiChk_eqo hc he
    · rw [e] at he; cases he
  · rcases hg t with ⟨i, -, e2, hc⟩ | e2
    · rw [e2] at hs
      simp only [tiChk, Bool.and_eq_true] at hc
      have := hc.2
      rw [hs] at this
      exact keyChk_ok this
    · rw [e2] at hs; cases hs

/-- the look at a table of functions -/
def fnChk (P : Program) (E : Env) (f : Nat) (q : Func × Tr RM) : Bool :=
  !(q.1.name == "runtime.NumGoroutine") && (match q.1.body with | some c => codeOK E q.2 c | none => true)

theorem tab_ok {P : Program} {E : Env} {F : Tr (Func × Tr RM)} (h : F.all (fnChk P E) = true) (hp : ∀ f q, F.get f = some q → P.funcs[f]? = some q.1) [Glob] : TabOK P E F := by
  intro f fn A hf
  have := Tr.all_get F h f (fn, A) hf
  simp only [fnChk, Bool.and_eq_true, Bool.not_eq_true'] at this
  refine ⟨hp f _ hf, this.1, fun c hc => ?_⟩
  have := this.2
  rw [hc] at this
  exact this
end Go.Hx

/-
  Hx: the engine once more, quicker: what a step needs, and no more, is laid out; temporaries in a tree.
-/
namespace Go.Hx
open Go

section
def builtinF (E : Env) (dst : Option Nat) (kills : List Nat) (mode : Nat) (b : Builtin) (t0 : Nat) (ats : List Nat) (vs : List V) (ns : Bool) (hp : Heap) : Out :=
  match b with
  | .len =>
    (match (E.ti t0).sh, vs with
     | .slice _ _, [.sl _ es _] => .val dst kills (goI es.length)
     | .slice _ _, [.msl _ _ _ n _] => .val dst kills (goI n)
     | .slice _ _, [.gs _ _ _ n] => .val dst kills (goI n)
     | .slice _ _, [.lmsl _ _ _ n _] => .val dst kills (goI n)
     | .str, [.raw (.string s)] => .val dst kills (goI s.size)
     | .map _ _, [.map r] => (match hp[r]? with | some (.map _ es) => .val dst kills (goI es.length) | _ => .fail)
     | .arr n _ _, [_] => .val dst kills (goI n)
     | _, _ => .fail)
  | .append => appOut E dst kills mode t0 ats vs hp
  | .max => .opt dst kills (extInt true vs)
  | .min => .opt dst kills (extInt false vs)
  | .delete =>
    (match (E.ti t0).sh, vs with
     | .map kt _, [.map r, k] => (match hp[r]? with
       | some (.map ar es) => if ar = arOf E kt ∧ keyOk ar k.strip = true ∧ ns = true then .ok { tw := kills.map (fun t => (t, V.dead)) ++ (match dst with | some d => [(d, V.tup [])] | none => []), hw := some (hp.set r (.map ar (delK es k.strip))) } else .fail
       | _ => .fail)
     | _, _ => .fail)
  | .clear =>
    (match (E.ti t0).sh, vs with
     | .slice _ _, [.sl _ [] _] => .ok { tw := kills.map (fun t => (t, V.dead)) ++ (match dst with | some d => [(d, V.tup [])] | none => []) }
     | .slice elem kk, [.gs g ver o n] =>
       (match hp[g]? with
        | some (.vec k cs ver') =>
          if k = kk ∧ ver = ver' ∧ (E.ti elem).ok = true ∧ (o + n) * k ≤ cs.length ∧ 0 < n then
            .ok { tw := kills.map (fun t => (t, V.dead)) ++ (match dst with | some d => [(d, V.tup [])] | none => []), hw := some (hp.set g (.vec k (setRange cs (o * k) (List.replicate n (E.ti elem).zero).flatten) ver)) }
          else .fail
        | _ => .fail)
     | _, _ => .fail)
  | _ => .fail


def st_move (E : Env) (kills : List Nat) (dst : Option Nat) (ev : Nat → Operand → V) (ty : Nat) (x : Operand) : Out :=
    .live dst kills (ev (E.kOf ty) x)

def st_pick (kills : List Nat) (dst : Option Nat) (ev : Nat → Operand → V) (c a b : Operand) : Out :=
    match ev 0 c with
    | .tt => .live dst kills (ev 0 a).strip
    | .ff => .live dst kills (ev 0 b).strip
    | .raw (.bool q) => .pick q (.live dst kills (ev 0 a).strip) (.live dst kills (ev 0 b).strip)
    | _ => .fail

def st_alloc (E : Env) (oa : OA) (kills : List Nat) (dst : Option Nat) (bxg : Nat → Option (List V)) (hp : Heap) (t : Nat) : Out :=
    if (E.ti t).ok then outAlloc dst kills oa.mode bxg hp (E.ti t).zero else .fail

def st_box (oa : OA) (kills : List Nat) (dst : Option Nat) (ev : Nat → Operand → V) (bxg : Nat → Option (List V)) (hp : Heap) (x : Operand) : Out :=
    outAlloc dst kills oa.mode bxg hp (ev 0 x).strip.cells

def st_build (E : Env) (kills : List Nat) (dst : Option Nat) (ev : Nat → Operand → V) (t : Nat) (parts : Array (Nat × Operand)) : Out :=
    match (E.ti t).sh with
    | .struct fs => .opt dst kills ((fillV (placeS fs) (E.ti t).zero (partsV ev (fun i => E.kOf (fieldT fs i)) parts.toList)).map .agg)
    | .arr _ elem k => .opt dst kills ((fillV (placeA k) (E.ti t).zero (partsV ev (fun _ => E.kOf elem) parts.toList)).map .agg)
    | _ => .fail

def st_buildSlice (E : Env) (oa : OA) (kills : List Nat) (dst : Option Nat) (ev : Nat → Operand → V) (bxg : Nat → Option (List V)) (hp : Heap) (t n : Nat) (parts : Array (Nat × Operand)) : Out :=
    match (E.ti t).sh with
    | .slice elem k =>
      match fillV (placeA k) (replCells n (E.ti elem).zero) (partsV ev (fun _ => E.kOf elem) parts.toList) with
      | some cs => if n * k ≤ 1048576 ∧ (E.ti elem).ok = true then outSlice dst kills oa.mode bxg hp k n (rowsOf k n cs) else .fail
      | none => .fail
    | _ => .fail

def st_load (E : Env) (oa : OA) (kills : List Nat) (dst : Option Nat) (ev : Nat → Operand → V) (bxg : Nat → Option (List V)) (hp : Heap) (t : Nat) (a : Operand) : Out :=
    if (E.ti t).ok then outLoad (E.ti t) dst kills (oa.mode == 1) bxg hp (ev 0 a) else .fail

def st_store (E : Env) (kills : List Nat) (dst : Option Nat) (ev : Nat → Operand → V) (bxg : Nat → Option (List V)) (hp : Heap) (t : Nat) (a x : Operand) : Out :=
    if dst.isSome then .fail else if (E.ti t).ok then outStore (E.ti t) kills bxg hp (ev 0 a) (ev (E.kOf t) x) else .fail

def st_nilCheck (kills : List Nat) (dst : Option Nat) (ev : Nat → Operand → V) (x : Operand) : Out :=
    let v := ev 0 x; if nonNil v then .val dst kills v else .fail

def st_binOp (E : Env) (kills : List Nat) (dst : Option Nat) (ev : Nat → Operand → V) (op : BinOp) (t : Nat) (x y : Operand) : Out :=
    if kills.isEmpty then binOut E dst op t (ev (E.kOf t) x) (ev (E.kOf t) y) (isNilC y) else .fail

def st_unOp (kills : List Nat) (dst : Option Nat) (ev : Nat → Operand → V) (op : UnOp) (x : Operand) : Out :=
    match op, ev 0 x with
    | .not, .tt => .val dst kills .ff
    | .not, .ff => .val dst kills .tt
    | .not, .raw (.bool b) => .val dst kills (mkB (!b))
    | .neg, .raw (.int k n) => .val dst kills (.raw (.int k (k.wrap (0 - n))))
    | _, _ => .fail

def st_convert (E : Env) (kills : List Nat) (dst : Option Nat) (ev : Nat → Operand → V) (bxg : Nat → Option (List V)) (hp : Heap) (src dt : Nat) (x : Operand) : Out :=
    (match (E.ti src).sh, (E.ti dt).sh, ev 0 x with
    | .int _, .int k, .raw (.int _ n) => .val dst kills (.raw (.int k (k.wrap n)))
    | .str, .str, .raw (.string s) => .val dst kills (.raw (.string s))
    | .slice e _, .str, .sl k es _ =>
      (match (E.ti e).sh with
       | .int .u8 => if k = 1 then .opt dst kills (bytesV es.flatten) else .fail
       | _ => .fail)
    | .slice e _, .str, .msl b q k n _ =>
      (match (E.ti e).sh, hp[b]? with
       | .int .u8, some (.cells cs) => if k = 1 ∧ q + n ≤ cs.length then .opt dst kills (bytesV ((cs.drop q).take n)) else .fail
       | _, _ => .fail)
    | .slice e _, .str, .lmsl s q k n _ =>
      (match (E.ti e).sh, bxg s with
       | .int .u8, some cs => if k = 1 ∧ q + n ≤ cs.length then .opt dst kills (bytesV ((cs.drop q).take n)) else .fail
       | _, _ => .fail)
    | _, _, _ => .fail)

def st_makeFunc (kills : List Nat) (dst : Option Nat) (ev : Nat → Operand → V) (f : Nat) (first captured : Array Operand) : Out :=
    let fs := first.toList.map fun x => (ev 0 x).strip
    let vs := captured.toList.map fun x => (ev 0 x).strip
    if fs.all V.cell ∧ vs.all V.cell then .val dst kills (.clo f fs vs) else .fail

def st_makeMap (E : Env) (kills : List Nat) (dst : Option Nat) (hp : Heap) (t : Nat) : Out :=
    (match dst with
     | some d => .ok { tw := kills.map (fun t => (t, V.dead)) ++ [(d, .map hp.length)], hw := some (hp ++ [.map (match (E.ti t).sh with | .map kt _ => arOf E kt | _ => 0) []]) }
     | none => .fail)

def st_makeSlice (E : Env) (oa : OA) (kills : List Nat) (dst : Option Nat) (ev : Nat → Operand → V) (bxg : Nat → Option (List V)) (hp : Heap) (t : Nat) (l c : Operand) : Out :=
    (match (E.ti t).sh, (ev 0 l).int?, (ev 0 c).int? with
     | .slice elem k, some (_, n), some (_, m) =>
       if (E.ti elem).ok = true ∧ (E.ti elem).size = k then
         match oa.mode, dst with
         | 4, some d => .need (0 ≤ n ∧ n ≤ m ∧ m ≤ 1099511627776 ∧ m * (E.ti elem).bytes ≤ 1099511627776) inferInstance (.val (some d) kills (.sl k (List.replicate n.toNat (E.ti elem).zero) 2))
         | 5, some d => .need (0 ≤ n ∧ n ≤ m ∧ m ≤ 1099511627776 ∧ m * (E.ti elem).bytes ≤ 1099511627776) inferInstance (.ok { tw := kills.map (fun t => (t, V.dead)) ++ [(d, .gs hp.length 0 0 n.toNat)], hw := some (hp ++ [.vec k (List.replicate n.toNat (E.ti elem).zero).flatten 0]) })
         | _, _ => .need (0 ≤ n ∧ n = m ∧ n ≤ 1099511627776 ∧ n * (E.ti elem).bytes ≤ 1099511627776) inferInstance (outSlice dst kills oa.mode bxg hp k n.toNat (List.replicate n.toNat (E.ti elem).zero)) else .fail
     | _, _, _ => .fail)

def st_slice (E : Env) (kills : List Nat) (dst : Option Nat) (ev : Nat → Operand → V) (bxg : Nat → Option (List V)) (hp : Heap) (t : Nat) (x : Operand) (lo hi : Option Operand) : Out :=
    (match oint? (lo.map (ev 0)), oint? (hi.map (ev 0)) with
     | some l, some h => outSub (E.ti t).sh dst kills bxg hp (ev 0 x) l h
     | _, _ => .fail)

def st_slice3 (E : Env) (kills : List Nat) (dst : Option Nat) (ev : Nat → Operand → V) (t : Nat) (x : Operand) (lo hi : Option Operand) (mx : Operand) : Out :=
    (match oint? (lo.map (ev 0)), oint? (hi.map (ev 0)), oint? (some (ev 0 mx)) with
     | some l, some h, some m => outSub3 (E.ti t).sh dst kills (ev 0 x) l h m
     | _, _, _ => .fail)

def st_fieldAddr (E : Env) (kills : List Nat) (dst : Option Nat) (ev : Nat → Operand → V) (t : Nat) (x : Operand) (f : Nat) : Out :=
    (match (E.ti t).sh with
     | .struct fs => (match fs[f]? with
       | some (off, size, _) => if size = 0 then .fail else .opt dst kills (addOff (ev 0 x) off)
       | none => .fail)
     | _ => .fail)

def st_field (E : Env) (kills : List Nat) (dst : Option Nat) (ev : Nat → Operand → V) (t : Nat) (x : Operand) (f : Nat) : Out :=
    (match (E.ti t).sh, ev 0 x with
     | .struct fs, .agg cs => (match fs[f]? with
       | some (off, _, ft) => if (E.ti ft).ok then .opt dst kills (loadV (E.ti ft) cs off) else .fail
       | none => .fail)
     | _, _ => .fail)

def st_indexAddr (E : Env) (kills : List Nat) (dst : Option Nat) (ev : Nat → Operand → V) (hp : Heap) (t : Nat) (x i : Operand) : Out :=
    (match (E.ti t).sh, ev 0 x, (ev 0 i).int? with
     | .slice _ k, .sl k' es _, some (_, n) => if k = k' then .need (0 ≤ n ∧ n < es.length) inferInstance (.elem es n.toNat fun e => .val dst kills (.eref e 0)) else .fail
     | .slice _ k, .gs g ver o m, some (_, n) =>
       (match hp[g]? with
        | some (.vec k' _ ver') => if k = k' ∧ ver = ver' then .need (0 ≤ n ∧ n < m) inferInstance (.val dst kills (.gptr g ver ((o + n.toNat) * k))) else .fail
        | _ => .fail)
     | .slice _ k, .msl b o k' m _, some (_, n) => if k = k' then .need (0 ≤ n ∧ n < m) inferInstance (.val dst kills (.ptr b (o + n.toNat * k))) else .fail
     | .slice _ k, .lmsl s o k' m _, some (_, n) => if k = k' then .need (0 ≤ n ∧ n < m) inferInstance (.val dst kills (.lptr s (o + n.toNat * k))) else .fail
     | .arr len _ k, v, some (_, n) => .need (0 ≤ n ∧ n < len) inferInstance (.opt dst kills (addOff v (n.toNat * k)))
     | _, _, _ => .fail)

def st_index (E : Env) (kills : List Nat) (dst : Option Nat) (ev : Nat → Operand → V) (t : Nat) (x i : Operand) : Out :=
    (match (E.ti t).sh, ev 0 x, (ev 0 i).int? with
     | .str, .raw (.string s), some (_, n) => .need (0 ≤ n ∧ n < s.size) inferInstance (.byte s n.toNat fun c => .val dst kills (.raw (.int .u8 c.toNat)))
     | .arr len elem 1, .agg cs, some (_, n) => if (E.ti elem).agg ∨ !(E.ti elem).ok then .fail else .need (0 ≤ n ∧ n < len ∧ n < cs.length) inferInstance (.cell cs n.toNat fun v => .live dst kills v.strip)
     | _, _, _ => .fail)

def st_lookup (E : Env) (kills : List Nat) (dst : Option Nat) (ev : Nat → Operand → V) (hp : Heap) (t : Nat) (m k : Operand) (ok : Bool) : Out :=
    (match (E.ti t).sh, ev 0 m with
     | .map kt elem, .map r => (match hp[r]? with
       | some (.map ar es) => if ar = arOf E kt ∧ (E.ti elem).ok then outLookup dst kills (zeroOf E elem) ok ar es (ev 0 k).strip else .fail
       | _ => .fail)
     | _, _ => .fail)

def st_mapUpdate (E : Env) (kills : List Nat) (dst : Option Nat) (ev : Nat → Operand → V) (hp : Heap) (t : Nat) (m k v : Operand) : Out :=
    if dst.isSome then .fail else
    (match (E.ti t).sh, ev 0 m with
     | .map kt _, .map r => (match hp[r]? with
       | some (.map ar es) =>
         let key := (ev 0 k).strip
         let val := (ev 0 v).strip
         if ar = arOf E kt ∧ keyOk ar key ∧ mval val then .ok { tw := kills.map (fun t => (t, V.dead)), hw := some (hp.set r (.map ar (setK es key val))) } else .fail
       | _ => .fail)
     | _, _ => .fail)

def st_mapEntry (E : Env) (kills : List Nat) (dst : Option Nat) (ev : Nat → Operand → V) (hp : Heap) (t : Nat) (m k : Operand) : Out :=
    (match (E.ti t).sh, ev 0 m, dst with
     | .map kt elem, .map r, some d => (match hp[r]? with
       | some (.map ar es) =>
         let key := (ev 0 k).strip
         if ar = arOf E kt ∧ keyOk ar key ∧ (E.ti elem).ok then
           match idxK es key 0 with
           | some i => .find (findK es key) (fun v => .ok { tw := kills.map (fun t => (t, V.dead)) ++ [(d, V.ment v.strip r i)] }) .fail
           | none => .ok { tw := kills.map (fun t => (t, V.dead)) ++ [(d, V.ment (zeroOf E elem) r es.length)], hw := some (hp.set r (.map ar (es ++ [(key, zeroOf E elem)]))) }
         else .fail
       | _ => .fail)
     | _, _, _ => .fail)

def st_entryStore (kills : List Nat) (dst : Option Nat) (ev : Nat → Operand → V) (hp : Heap) (m s v : Operand) : Out :=
    if dst.isSome then .fail else
    (match ev 0 m, ev 0 s with
     | .map r, .stamp r' i => (match hp[r]? with
       | some (.map ar es) => if r = r' ∧ mval (ev 0 v).strip then
           (match es[i]? with
            | some (k, _) => .ok { tw := kills.map (fun t => (t, V.dead)), hw := some (hp.set r (.map ar (es.set i (k, (ev 0 v).strip)))) }
            | none => .fail) else .fail
       | _ => .fail)
     | _, _ => .fail)

def st_extract (kills : List Nat) (dst : Option Nat) (ev : Nat → Operand → V) (x : Operand) (i : Nat) : Out :=
    (match ev 0 x with
     | .tup vs => (match vs[i]? with | some v => .live dst kills v.strip | none => .fail)
     | .ment v r j => (match i with | 0 => .live dst kills v.strip | 1 => .val dst kills (.stamp r j) | _ => .fail)
     | _ => .fail)

def st_builtin (E : Env) (oa : OA) (kills : List Nat) (dst : Option Nat) (ev : Nat → Operand → V) (ns : Bool) (hp : Heap) (b : Builtin) (args : Array Operand) (ats : Array Nat) : Out :=
    (match ats[0]? with
     | some t0 => builtinF E dst kills oa.mode b t0 ats.toList (args.toList.map (ev (E.kOf t0))) ns hp
     | none => .fail)

def st_range (E : Env) (kills : List Nat) (dst : Option Nat) (ev : Nat → Operand → V) (hp : Heap) (t : Nat) (x : Operand) : Out :=
    (match (E.ti t).sh, ev 0 x, dst with
     | .map _ _, .map r, some d => (match hp[r]? with
       | some (.map _ []) => .ok { tw := kills.map (fun t => (t, V.dead)) ++ [(d, .eit hp.length)], hw := some (hp ++ [.eit r]) }
       | _ => .fail)
     | _, _, _ => .fail)

def st_next (kills : List Nat) (dst : Option Nat) (ev : Nat → Operand → V) (hp : Heap) (x : Operand) : Out :=
    (match ev 0 x with
     | .eit b => (match hp[b]? with
       | some (.eit m) => (match hp[m]? with
         | some (.map _ []) => .val dst kills (.tup [.ff])
         | _ => .fail)
       | _ => .fail)
     | _ => .fail)

def stepF (E : Env) (oa : OA) (o : Oper) (ev : Nat → Operand → V) (ns : Bool) (bxg : Nat → Option (List V)) (hp : Heap) : Out :=
  match o.op with
  | .move x | .assign x => st_move E oa.take o.dst ev o.type x
  | .pick c a b => st_pick oa.take o.dst ev c a b
  | .alloc t => st_alloc E oa oa.take o.dst bxg hp t
  | .box _ x => st_box oa oa.take o.dst ev bxg hp x
  | .build t parts => st_build E oa.take o.dst ev t parts
  | .buildSlice t n parts => st_buildSlice E oa oa.take o.dst ev bxg hp t n parts
  | .load t a => st_load E oa oa.take o.dst ev bxg hp t a
  | .store t a x => st_store E oa.take o.dst ev bxg hp t a x
  | .nilCheck x => st_nilCheck oa.take o.dst ev x
  | .binOp op t x y _ => st_binOp E oa.take o.dst ev op t x y
  | .unOp op _ x => st_unOp oa.take o.dst ev op x
  | .convert src dt x => st_convert E oa.take o.dst ev bxg hp src dt x
  | .makeFunc (.func f) first captured => st_makeFunc oa.take o.dst ev f first captured
  | .makeMap t none => st_makeMap E oa.take o.dst hp t
  | .makeSlice t l c => st_makeSlice E oa oa.take o.dst ev bxg hp t l c
  | .slice t x lo hi none => st_slice E oa.take o.dst ev bxg hp t x lo hi
  | .slice t x lo hi (some mx) => st_slice3 E oa.take o.dst ev t x lo hi mx
  | .fieldAddr t x f => st_fieldAddr E oa.take o.dst ev t x f
  | .field t x f => st_field E oa.take o.dst ev t x f
  | .indexAddr t x i => st_indexAddr E oa.take o.dst ev hp t x i
  | .index t x i => st_index E oa.take o.dst ev t x i
  | .lookup t m k ok => st_lookup E oa.take o.dst ev hp t m k ok
  | .mapUpdate t m k v => st_mapUpdate E oa.take o.dst ev hp t m k v
  | .mapEntry t m k => st_mapEntry E oa.take o.dst ev hp t m k
  | .entryStore _ m s v => st_entryStore oa.take o.dst ev hp m s v
  | .extract x i => st_extract oa.take o.dst ev x i
  | .call { callee := .builtin b, args := args, argTypes := ats } => st_builtin E oa oa.take o.dst ev ns hp b args ats
  | .range t x => st_range E oa.take o.dst ev hp t x
  | .next x false => st_next oa.take o.dst ev hp x
  | _ => .fail
end

theorem builtinF_eq (E : Env) (dst : Option Nat) (kills : List Nat) (mode : Nat) (b : Builtin) (t0 : Nat) (ats : List Nat) (vs : List V) (tm : List V) (hp : Heap) : builtinOut E dst kills mode b t0 ats vs tm hp = builtinF E dst kills mode b t0 ats vs (noSt tm) hp := by
  cases b <;> rfl

theorem stepF_eq [Glob] (E : Env) (oa : OA) (o : Oper) (tm : List V) (bxg : Nat → Option (List V)) (hp : Heap) : stepOut E oa o tm bxg hp = stepF E oa o (evO tm oa.take) (noSt tm) bxg hp := by
  obtain ⟨dst, op, type, pos, after, guard⟩ := o
  cases op <;> rfl
end Go.Hx

/-
  Hx: temporaries in a tree; the engine over them.
-/
namespace Go.Hx
open Go

inductive TT where
  | lf
  | nd (v : V) (l r : TT)

def TT.get : TT → Nat → V
  | .lf, _ => .dead
  | .nd v l r, n => match n with
    | 0 => v
    | m + 1 => match Nat.beq (Nat.mod m 2) 0 with
      | true => l.get (Nat.div m 2)
      | false => r.get (Nat.div m 2)

/-- another value at a place; a place that is not there: none -/
def TT.put {β : Type} : TT → Nat → V → (TT → Option β) → Option β
  | .lf, _, _, _ => none
  | .nd v l r, n, x, k => match n with
    | 0 => k (.nd x l r)
    | m + 1 => match Nat.beq (Nat.mod m 2) 0 with
      | true => l.put (Nat.div m 2) x fun l => k (.nd v l r)
      | false => r.put (Nat.div m 2) x fun r => k (.nd v l r)

def TT.all (f : V → Bool) : TT → Bool
  | .lf => true
  | .nd v l r => f v && l.all f && r.all f

def TT.full : Nat → TT
  | 0 => .lf
  | d + 1 => .nd .dead (TT.full d) (TT.full d)

theorem TT.get_full : ∀ (d n : Nat), (TT.full d).get n = .dead
  | 0, _ => rfl
  | d + 1, 0 => rfl
  | d + 1, m + 1 => by
    simp only [TT.full, TT.get]
    cases Nat.beq (Nat.mod m 2) 0 <;> exact TT.get_full d _

theorem half_eq {m n : Nat} (h : Nat.beq (Nat.mod m 2) 0 = Nat.beq (Nat.mod n 2) 0) : Nat.div m 2 = Nat.div n 2 ↔ m = n := by
  have e : ∀ k, Nat.mod k 2 = k % 2 := fun _ => rfl
  have e2 : ∀ k, Nat.div k 2 = k / 2 := fun _ => rfl
  rw [e, e] at h
  rw [e2, e2]
  have h' : (m % 2 = 0) ↔ (n % 2 = 0) := by
    rw [← Nat.beq_eq, ← Nat.beq_eq, h]
  omega

theorem TT.put_some {β : Type} : ∀ (T : TT) (n : Nat) (x : V) (k : TT → Option β) (r : β), T.put n x k = some r → ∃ T', k T' = some r ∧ ∀ m, T'.get m = if n = m then x else T.get m
  | .lf, _, _, _, _, h => by cases h
  | .nd v l r, 0, x, k, res, h => by
    refine ⟨.nd x l r, h, fun m => ?_⟩
    cases m with
    | zero => rfl
    | succ m => simp [TT.get]
  | .nd v l r, n + 1, x, k, res, h => by
    simp only [TT.put] at h
    cases hb : Nat.beq (Nat.mod n 2) 0 with
    | true =>
      rw [hb] at h
      obtain ⟨l', hk, hg⟩ := TT.put_some l _ x _ res h
      refine ⟨_, hk, fun m => ?_⟩
      cases m with
      | zero => simp [TT.get]
      | succ m =>
        simp only [TT.get]
        cases hc : Nat.beq (Nat.mod m 2) 0 with
        | true =>
          dsimp only
          rw [hg]
          have := half_eq (m := n) (n := m) (by rw [hb, hc])
          by_cases e : n = m
          · simp [e]
          · rw [if_neg (fun e2 => e (this.1 e2)), if_neg (fun e2 => e (by omega))]
        | false =>
          dsimp only
          rw [if_neg (fun e => by have : n = m := by omega
                                  subst this; rw [hb] at hc; cases hc)]
    | false =>
      rw [hb] at h
      obtain ⟨r', hk, hg⟩ := TT.put_some r _ x _ res h
      refine ⟨_, hk, fun m => ?_⟩
      cases m with
      | zero => simp [TT.get]
      | succ m =>
        simp only [TT.get]
        cases hc : Nat.beq (Nat.mod m 2) 0 with
        | false =>
          dsimp only
          rw [hg]
          have := half_eq (m := n) (n := m) (by rw [hb, hc])
          by_cases e : n = m
          · simp [e]
          · rw [if_neg (fun e2 => e (this.1 e2)), if_neg (fun e2 => e (by omega))]
        | true =>
          dsimp only
          rw [if_neg (fun e => by have : n = m := by omega
                                  subst this; rw [hb] at hc; cases hc)]

theorem TT.all_get {f : V → Bool} (hd : f .dead = true) : ∀ (T : TT) (n : Nat), T.all f = true → f (T.get n) = true
  | .lf, _, _ => hd
  | .nd v l r, 0, h => by
    simp only [TT.all, Bool.and_eq_true] at h; exact h.1.1
  | .nd v l r, n + 1, h => by
    simp only [TT.all, Bool.and_eq_true] at h
    simp only [TT.get]
    cases Nat.beq (Nat.mod n 2) 0
    · exact TT.all_get hd r _ h.2
    · exact TT.all_get hd l _ h.1.2

structure FSt where
  tm : TT
  len : Nat
  bx : List (Nat × List V)
  hp : Heap

/-- the same state -/
structure Rep (F : FSt) (S : St) : Prop where
  len : S.tm.length = F.len
  tm : ∀ t, getT S.tm t = F.tm.get t
  bx : S.bx = F.bx
  hp : S.hp = F.hp

def putsF {β : Type} (len : Nat) : List (Nat × V) → TT → (TT → Option β) → Option β
  | [], T, k => k T
  | (t, v) :: r, T, k => match Nat.blt t len with
    | true => T.put t v fun T => putsF len r T k
    | false => none

def FSt.apply {β : Type} (F : FSt) (u : Upd) (k : FSt → Option β) : Option β :=
  putsF F.len u.tw F.tm fun T =>
    match u.bw with
    | none => (match u.hw with
      | none => k ⟨T, F.len, F.bx, F.hp⟩
      | some h => allK h fun h => k ⟨T, F.len, F.bx, h⟩)
    | some (s, cs) => allK cs fun cs => (match u.hw with
      | none => allK (setBx F.bx s cs) fun bx => k ⟨T, F.len, bx, F.hp⟩
      | some h => allK (setBx F.bx s cs) fun bx => allK h fun h => k ⟨T, F.len, bx, h⟩)

theorem putsF_some {β : Type} {len : Nat} : ∀ (tw : List (Nat × V)) (T : TT) (k : TT → Option β) (r : β) (tm : List V), tm.length = len → (∀ t, getT tm t = T.get t) → putsF len tw T k = some r → ∃ T', k T' = some r ∧ ∀ t, getT (sets tw tm) t = T'.get t
  | [], T, k, r, tm, hl, ht, h => ⟨T, h, ht⟩
  | (t, v) :: tw, T, k, r, tm, hl, ht, h => by
    simp only [putsF] at h
    cases hb : Nat.blt t len with
    | false => rw [hb] at h; cases h
    | true =>
      rw [hb] at h
      have hlt : t < tm.length := by rw [hl]; simpa [Nat.blt_eq] using hb
      obtain ⟨T', hk, hg⟩ := TT.put_some T t v _ r h
      refine putsF_some tw T' k r (tm.set t v) (by simpa using hl) (fun m => ?_) hk
      rw [hg]
      unfold getT
      rw [List.getElem?_set]
      by_cases e : t = m
      · subst e; simp [hlt]
      · simp only [e, if_false]; exact ht m

theorem FSt.apply_some {β : Type} {F : FSt} {S : St} (hR : Rep F S) {u : Upd} {k : FSt → Option β} {r : β} (h : F.apply u k = some r) : ∃ F', k F' = some r ∧ Rep F' (S.apply u) := by
  unfold FSt.apply at h
  obtain ⟨T', hk, hg⟩ := putsF_some u.tw F.tm _ r S.tm hR.len hR.tm h
  have hlen : (S.apply u).tm.length = F.len := by rw [apply_tm, sets_len]; exact hR.len
  cases hb : u.bw with
  | none =>
    rw [hb] at hk
    cases hh : u.hw with
    | none =>
      rw [hh] at hk
      exact ⟨_, hk, hlen, hg, by simp [St.apply, hb, hR.bx], by simp [St.apply, hh, hR.hp]⟩
    | some hw =>
      rw [hh] at hk
      dsimp only at hk
      rw [allK_eq] at hk
      exact ⟨_, hk, hlen, hg, by simp [St.apply, hb, hR.bx], by simp [St.apply, hh]⟩
  | some p =>
    obtain ⟨s, cs⟩ := p
    rw [hb] at hk
    dsimp only at hk
    rw [allK_eq] at hk
    cases hh : u.hw with
    | none =>
      rw [hh] at hk
      dsimp only at hk
      rw [allK_eq] at hk
      exact ⟨_, hk, hlen, hg, by simp [St.apply, hb, hR.bx], by simp [St.apply, hh, hR.hp]⟩
    | some hw =>
      rw [hh] at hk
      dsimp only at hk
      rw [allK_eq, allK_eq] at hk
      exact ⟨_, hk, hlen, hg, by simp [St.apply, hb, hR.bx], by simp [St.apply, hh]⟩
end Go.Hx

/-
  Hx: the quicker engine, and that it does what the other does.
-/
namespace Go.Hx
open Go

section
variable [Glob] (P : Program) (E : Env)

def evF (T : TT) (take : List Nat) (k : Nat) : Operand → V
  | .tmp t => match take with
    | [] => (T.get t).strip
    | take => if take.contains t then T.get t else (T.get t).strip
  | .const v => lift k v
  | .global g => .eref (Glob.gl g) 0
  | .func f => .clo f [] []

def argsF (T : TT) (take : List Nat) (f : Nat) : Nat → List Operand → List V
  | _, [] => []
  | i, x :: r => (evF T take (paramK P E f i) x).strip :: argsF T take f (i + 1) r

def wantedF (ops : Array Oper) (o : Oper) (T : TT) : Option Bool :=
  match o.guard with
  | none => some true
  | some (j, want) =>
    match (ops[j]?).bind (·.dst) with
    | none => none
    | some d =>
      match (T.get d).bool? with
      | some b => some (b == want)
      | none => match T.get d with
        | .tup [] => some false
        | _ => none

def fU (call : Nat → List V → Heap → Option (V × Heap)) (oa : OA) (o : Oper) (F : FSt) : Option Upd :=
  match o.op with
  | .call { callee := .value x, args, .. } =>
    match evF F.tm oa.take 0 x with
    | .clo f fst cs =>
      allK ((fst ++ argsF P E F.tm oa.take f fst.length args.toList ++ cs).map V.strip) fun vs =>
      if vs.all argOk && F.tm.all noStV then (call f vs F.hp).map fun r => { tw := oa.take.map (fun t => (t, V.dead)) ++ (match o.dst with | some d => [(d, r.1)] | none => []), hw := some r.2 } else none
    | _ => none
  | _ => (stepF E oa o (evF F.tm oa.take) (F.tm.all noStV) (fun s => look F.bx s) F.hp).run

def effF (call : Nat → List V → Heap → Option (V × Heap)) (ops : Array Oper) (o : Oper) (oa : OA) (F : FSt) : Option Upd :=
  match wantedF ops o F.tm with
  | none => none
  | some true => fU P E call oa o F
  | some false => some { tw := match o.dst with | some d => [(d, .tup [])] | none => [] }

variable {P E} {call : Nat → List V → Heap → Option (V × Heap)} {ops : Array Oper}

theorem evF_eq {T : TT} {tm : List V} (h : ∀ t, getT tm t = T.get t) (take : List Nat) (k : Nat) (x : Operand) : evF T take k x = evO tm take k x := by
  cases x with
  | tmp t =>
    simp only [evO, evF]
    rw [h t]
    cases take with
    | nil => rfl
    | cons _ _ => rfl
  | _ => rfl

theorem evF_fun {T : TT} {tm : List V} (h : ∀ t, getT tm t = T.get t) (take : List Nat) : evF T take = evO tm take := by
  funext k x; exact evF_eq h take k x

theorem argsF_eq {T : TT} {tm : List V} (h : ∀ t, getT tm t = T.get t) (take : List Nat) (f : Nat) : ∀ (l : List Operand) (i : Nat), argsF P E T take f i l = argsV P E tm take f i l
  | [], _ => rfl
  | x :: l, i => by simp only [argsF, argsV, evF_eq h, argsF_eq h take f l]

omit [Glob] in
theorem wantedF_eq {F : FSt} {S : St} (h : Rep F S) (o : Oper) : wantedF ops o F.tm = wantedV ops o S := by
  unfold wantedF wantedV
  cases o.guard with
  | none => rfl
  | some p =>
    obtain ⟨j, w⟩ := p
    dsimp only
    cases (ops[j]?).bind (·.dst) with
    | none => rfl
    | some d =>
      dsimp only; rw [h.tm d]
      generalize F.tm.get d = v
      cases v.bool? with
      | some b => rfl
      | none => rfl

omit [Glob] in
theorem noSt_of {F : FSt} {S : St} (h : Rep F S) (ha : F.tm.all noStV = true) : noSt S.tm = true := by
  unfold noSt
  rw [List.all_eq_true]
  intro v hv
  obtain ⟨i, hi⟩ := List.mem_iff_getElem?.1 hv
  have h1 : getT S.tm i = v := by unfold getT; rw [hi]; rfl
  have h2 := TT.all_get (f := noStV) rfl F.tm i ha
  rw [← h.tm i, h1] at h2
  exact h2

omit [Glob] in
theorem stepF_ns {oa : OA} {o : Oper} {ev : Nat → Operand → V} {bxg : Nat → Option (List V)} {hp : Heap} {u : Upd} (h : (stepF E oa o ev false bxg hp).run = some u) : (stepF E oa o ev true bxg hp).run = some u := by
  obtain ⟨dst, op, type, pos, after, guard⟩ := o
  cases op <;> try exact h
  case makeFunc f a b => cases f <;> exact h
  case makeMap t r => cases r <;> exact h
  case slice t x l g m => cases m <;> exact h
  case next x b => cases b <;> exact h
  case call c =>
    obtain ⟨cal, args, ats⟩ := c
    cases cal <;> try exact h
    case builtin b =>
      unfold stepF st_builtin at h ⊢
      dsimp only at h ⊢
      split at h
      · rename_i t0 ht
        unfold builtinF at h ⊢
        cases b <;> try exact h
        case delete =>
          dsimp only at h ⊢
          split at h
          · split at h
            · simp [Out.run] at h
            · cases h
          · cases h
      · cases h

theorem fU_some {call' : Nat → List V → Heap → Option (V × Heap)} (hcc : ∀ f vs hp r, call f vs hp = some r → call' f vs hp = some r) {F : FSt} {S : St} (hR : Rep F S) {oa : OA} {o : Oper} {u : Upd} (h : fU P E call oa o F = some u) : opU P E call' oa o S = some u := by
  unfold fU at h
  unfold opU
  split at h
  · rename_i x args ats hop
    try rw [hop]
    try dsimp only
    rw [evF_eq hR.tm] at h
    split at h
    · rename_i f fst cs hv
      try rw [hv]
      try dsimp only
      rw [allK_eq, argsF_eq hR.tm] at h
      split at h
      · rename_i hc
        simp only [Bool.and_eq_true] at hc
        have hns := noSt_of hR hc.2
        rw [if_pos (by rw [hc.1, hns]; rfl), hR.hp]
        obtain ⟨r, hr, e⟩ := Option.map_eq_some_iff.1 h
        rw [hcc _ _ _ _ hr]
        exact congrArg some e
      · cases h
    · cases h
  · rename_i hno
    split
    · rename_i x args ats hop; exact absurd hop (hno x args ats)
    · rw [stepF_eq]
      rw [evF_fun hR.tm] at h
      have hb : (fun s => look F.bx s) = S.box := by funext s; unfold St.box; rw [hR.bx]
      rw [hb, ← hR.hp] at h
      cases ha : F.tm.all noStV with
      | true => rw [ha] at h; rw [noSt_of hR ha]; exact h
      | false =>
        rw [ha] at h
        cases hn : noSt S.tm with
        | false => exact h
        | true => exact stepF_ns h

theorem effF_some {call' : Nat → List V → Heap → Option (V × Heap)} (hcc : ∀ f vs hp r, call f vs hp = some r → call' f vs hp = some r) {F : FSt} {S : St} (hR : Rep F S) {oa : OA} {o : Oper} {u : Upd} (h : effF P E call ops o oa F = some u) : effO P E call' ops o oa S = some u := by
  unfold effF at h
  unfold effO
  rw [wantedF_eq hR] at h
  cases hw : wantedV ops o S with
  | none => rw [hw] at h; cases h
  | some b =>
    rw [hw] at h
    cases b with
    | true => exact fU_some hcc hR h
    | false => exact h
end

section
variable [Glob] (P : Program) (E : Env) (call : Nat → List V → Heap → Option (V × Heap)) (ops : Array Oper)

def gOps : List Oper → List OA → FSt → Option FSt
  | o :: r, oa :: s, F =>
    match effF P E call ops o oa F with
    | none => none
    | some u => F.apply u fun F => gOps r s F
  | [], [], F => some F
  | _, _, _ => none

def gTr : List Oper → List OA → FSt → Option (FSt × List (FSt × Upd))
  | o :: r, oa :: s, F =>
    match effF P E call ops o oa F with
    | none => none
    | some u => F.apply u fun F' =>
      match gTr r s F' with
      | none => none
      | some (F2, tr) => some (F2, (F, u) :: tr)
  | [], [], F => some (F, [])
  | _, _, _ => none

def freeF (oa : OA) (o : Oper) (T : TT) : Bool :=
  match o.op with
  | .load _ x => match evF T oa.take 0 x with | .lptr .. => true | _ => false
  | _ => false

def chkF (oas : List OA) (tr : List (FSt × Upd)) (x y : Nat) : Bool :=
  match tr[x]?, tr[y]?, ops[y]?, oas[y]? with
  | some (Fx, ux), some (Fy, uy), some o, some oa =>
    (match ux.bw with
     | none => true
     | some (s, _) => (match uy.bw with | some (s', _) => !(Nat.beq s s') | none => true) &&
        (pureOp E oa o || ((match o.dst with | some d => !(Nat.beq d s) | none => true) && o.op.operands.toList.all fun z => match z with | .tmp t => offBox s (Fy.tm.get t) | _ => true))) &&
    (match ux.hw with
     | none => true
     | some h => uy.hw.isNone && (freeF oa o Fy.tm || (sameU (effF P E call ops o oa { Fy with hp := Fx.hp }) uy && sameU (effF P E call ops o oa { Fy with hp := h }) uy)))
  | _, _, _, _ => false

def gReg (d : Bool) (rm : RM) (F : FSt) : Option FSt :=
  match d with
  | false => gOps P E call ops ops.toList rm.oas F
  | true =>
    match rm.pairs, rm.ns with
    | [], false => gOps P E call ops ops.toList rm.oas F
    | ps, ns => match gTr P E call ops ops.toList rm.oas F with
      | none => none
      | some (F', tr) => bif ps.all (fun p => chkF P E call ops rm.oas tr p.1 p.2) && (!ns || (F.tm.all noStV && tr.all fun q => q.2.tw.all fun p => noStV p.2)) then some F' else none

variable {P E call ops}

theorem gOps_some {call' : Nat → List V → Heap → Option (V × Heap)} (hcc : ∀ f vs hp r, call f vs hp = some r → call' f vs hp = some r) : ∀ (r : List Oper) (s : List OA) (F F' : FSt) (S : St), Rep F S → gOps P E call ops r s F = some F' → ∃ S', rOps P E call' ops r s S = some S' ∧ Rep F' S'
  | [], [], F, F', S, hR, h => by
    simp only [gOps, Option.some.injEq] at h
    subst h; exact ⟨S, rfl, hR⟩
  | [], _ :: _, _, _, _, _, h => by simp [gOps] at h
  | _ :: _, [], _, _, _, _, h => by simp [gOps] at h
  | o :: r, oa :: s, F, F', S, hR, h => by
    simp only [gOps] at h
    split at h
    · cases h
    · rename_i u hu
      obtain ⟨F1, hk, hR1⟩ := FSt.apply_some hR h
      obtain ⟨S', hS, hR'⟩ := gOps_some hcc r s F1 F' _ hR1 hk
      exact ⟨S', by simp only [rOps, effF_some hcc hR hu, applyK_eq, hS], hR'⟩

/-- two traces alike -/
def RepTr (trF : List (FSt × Upd)) (tr : List (St × Upd)) : Prop := ∀ (i : Nat), match trF[i]?, tr[i]? with
  | some (F, u), some (S, v) => Rep F S ∧ u = v
  | none, none => True
  | _, _ => False

theorem gTr_some {call' : Nat → List V → Heap → Option (V × Heap)} (hcc : ∀ f vs hp r, call f vs hp = some r → call' f vs hp = some r) : ∀ (r : List Oper) (s : List OA) (F F' : FSt) (S : St) (trF : List (FSt × Upd)), Rep F S → gTr P E call ops r s F = some (F', trF) → ∃ S' tr, rTr P E call' ops r s S = some (S', tr) ∧ Rep F' S' ∧ RepTr trF tr ∧ trF.map (·.2) = tr.map (·.2)
  | [], [], F, F', S, trF, hR, h => by
    simp only [gTr, Option.some.injEq, Prod.mk.injEq] at h
    obtain ⟨rfl, rfl⟩ := h
    exact ⟨S, [], rfl, hR, fun i => by simp, rfl⟩
  | [], _ :: _, _, _, _, _, _, h => by simp [gTr] at h
  | _ :: _, [], _, _, _, _, _, h => by simp [gTr] at h
  | o :: r, oa :: s, F, F', S, trF, hR, h => by
    simp only [gTr] at h
    split at h
    · cases h
    · rename_i u hu
      obtain ⟨F1, hk, hR1⟩ := FSt.apply_some hR h
      split at hk
      · cases hk
      · rename_i F2 tr2 h2
        simp only [Option.some.injEq, Prod.mk.injEq] at hk
        obtain ⟨rfl, rfl⟩ := hk
        obtain ⟨S', tr, hS, hR', hT, hm⟩ := gTr_some hcc r s F1 _ _ _ hR1 h2
        refine ⟨S', (S, u) :: tr, by simp only [rTr, effF_some hcc hR hu, applyK_eq, hS], hR', fun i => ?_, by simp [hm]⟩
        cases i with
        | zero => exact ⟨hR, rfl⟩
        | succ i => simpa using hT i

theorem chkF_some {call' : Nat → List V → Heap → Option (V × Heap)} (hcc : ∀ f vs hp r, call f vs hp = some r → call' f vs hp = some r) {oas : List OA} {trF : List (FSt × Upd)} {tr : List (St × Upd)} (hT : RepTr trF tr) {x y : Nat} (h : chkF P E call ops oas trF x y = true) : chkPair P E call' ops oas tr x y = true := by
  unfold chkF at h
  unfold chkPair
  have hx := hT x
  have hy := hT y
  cases h1 : trF[x]? with
  | none => rw [h1] at h; cases h
  | some px =>
    obtain ⟨Fx, ux⟩ := px
    cases h2 : trF[y]? with
    | none => rw [h1, h2] at h; cases h
    | some py =>
      obtain ⟨Fy, uy⟩ := py
      rw [h1] at hx
      rw [h2] at hy
      rw [h1, h2] at h
      cases h3 : tr[x]? with
      | none => rw [h3] at hx; exact hx.elim
      | some qx =>
        obtain ⟨Sx, vx⟩ := qx
        cases h4 : tr[y]? with
        | none => rw [h4] at hy; exact hy.elim
        | some qy =>
          obtain ⟨Sy, vy⟩ := qy
          rw [h3] at hx
          rw [h4] at hy
          obtain ⟨Rx, rfl⟩ := hx
          obtain ⟨Ry, rfl⟩ := hy
          cases h5 : ops[y]? with
          | none => rw [h5] at h; cases h
          | some o =>
            cases h6 : oas[y]? with
            | none => rw [h5, h6] at h; cases h
            | some oa =>
              rw [h5, h6] at h
              simp only [Bool.and_eq_true] at h ⊢
              refine ⟨?_, ?_⟩
              · have h := h.1
                cases hb : ux.bw with
                | none => rfl
                | some p =>
                  obtain ⟨s, c⟩ := p
                  rw [hb] at h
                  dsimp only at h ⊢
                  simp only [Ry.tm]
                  exact h
              · have h := h.2
                cases hh : ux.hw with
                | none => rfl
                | some hw =>
                  rw [hh] at h
                  dsimp only at h ⊢
                  simp only [Bool.and_eq_true, Bool.or_eq_true] at h ⊢
                  refine ⟨h.1, h.2.imp (fun e => ?_) (fun e => ?_)⟩
                  · unfold freeF at e
                    unfold heapFree
                    split at e
                    · rename_i hop
                      rw [hop]
                      dsimp only
                      rw [evF_eq Ry.tm] at e
                      exact e
                    · cases e
                  · have a1 := sameU_eq e.1
                    have a2 := sameU_eq e.2
                    have b1 := effF_some hcc (F := { Fy with hp := Fx.hp }) (S := { Sy with hp := Sx.hp }) ⟨Ry.len, Ry.tm, Ry.bx, Rx.hp⟩ a1
                    have b2 := effF_some hcc (F := { Fy with hp := hw }) (S := { Sy with hp := hw }) ⟨Ry.len, Ry.tm, Ry.bx, rfl⟩ a2
                    rw [b1, b2]
                    rw [a1] at e
                    exact ⟨e.1, e.1⟩

theorem gReg_some {call' : Nat → List V → Heap → Option (V × Heap)} (hcc : ∀ f vs hp r, call f vs hp = some r → call' f vs hp = some r) {d : Bool} {rm : RM} {F F' : FSt} {S : St} (hR : Rep F S) (h : gReg P E call ops d rm F = some F') : ∃ S', rReg P E call' ops d rm S = some S' ∧ Rep F' S' := by
  cases d with
  | false => exact gOps_some hcc _ _ _ _ _ hR h
  | true =>
    simp only [gReg] at h
    simp only [rReg]
    split at h
    · rename_i hp hn
      rw [hp, hn]
      exact gOps_some hcc _ _ _ _ _ hR h
    · rename_i hno
      split at h
      · cases h
      · rename_i F2 trF htr
        cases hc : (rm.pairs.all (fun p => chkF P E call ops rm.oas trF p.1 p.2) && (!rm.ns || (F.tm.all noStV && trF.all fun q => q.2.tw.all fun p => noStV p.2))) with
        | false => rw [hc] at h; cases h
        | true =>
          rw [hc] at h
          simp only [cond_true, Option.some.injEq] at h
          subst h
          obtain ⟨S', tr, hS, hR', hT, hm⟩ := gTr_some hcc _ _ _ _ _ _ hR htr
          simp only [Bool.and_eq_true, Bool.or_eq_true] at hc
          have key : (rm.pairs.all (fun p => chkPair P E call' ops rm.oas tr p.1 p.2) && (!rm.ns || (S.tm.all noStV && tr.all fun q => q.2.tw.all fun p => noStV p.2))) = true := by
            simp only [Bool.and_eq_true, Bool.or_eq_true]
            refine ⟨List.all_eq_true.2 fun p hp => chkF_some hcc hT (List.all_eq_true.1 hc.1 p hp), hc.2.imp id fun e => ⟨noSt_of hR e.1, ?_⟩⟩
            have e2 : (trF.map (·.2)).all (fun u => u.tw.all fun p => noStV p.2) = true := by rw [List.all_map]; exact e.2
            rw [hm, List.all_map] at e2
            exact e2
          refine ⟨S', ?_, hR'⟩
          split
          · rename_i hp hn
            exact absurd hn (hno hp)
          · rw [hS]
            dsimp only
            rw [key]; rfl
end
end Go.Hx

/-
  Hx: the quicker engine: code and calls.
-/
namespace Go.Hx
open Go

section
variable [Glob] (P : Program) (E : Env)

def gCode (A : Tr RM) (call : Nat → List V → Heap → Option (V × Heap)) : Nat → Code → FSt → Option (Ex × FSt)
  | 0, _, _ => none
  | n + 1, c, S =>
    match c with
    | .skip => some (.normal, S)
    | .region id ops d => match A.get id with
      | none => none
      | some rm => match gReg P E call ops d rm S with
        | none => none
        | some S => some (.normal, S)
    | .seq x y =>
      match gCode A call n x S with
      | none => none
      | some (e, S') => match e with
        | .normal => gCode A call n y S'
        | e => some (e, S')
    | .cond x a b =>
      match (evF S.tm [] 0 x).bool? with
      | none => none
      | some t => match t with
        | true => gCode A call n a S
        | false => gCode A call n b S
    | .block id x =>
      match gCode A call n x S with
      | none => none
      | some (e, S') => match e with
        | .exit id' => bif Nat.beq id' id then some (.normal, S') else some (.exit id', S')
        | e => some (e, S')
    | .loop x =>
      match gCode A call n x S with
      | none => none
      | some (e, S') => match e with
        | .normal => gCode A call n (.loop x) S'
        | e => some (e, S')
    | .exit id => some (.exit id, S)
    | .ret => some (.ret, S)
    | _ => none

def resOneF (S : FSt) : ResultVar → Option V
  | .tmp t => some (S.tm.get t).strip
  | .cell a t =>
    if (E.ti t).ok then
      match S.tm.get a with
      | .lptr s o => (look S.bx s).bind fun cs => loadV (E.ti t) cs o
      | .ptr b o => match S.hp[b]? with | some (.cells cs) => loadV (E.ti t) cs o | _ => none
      | _ => none
    else none

def resLF (S : FSt) : List ResultVar → Option (List V)
  | [] => some []
  | r :: l =>
    match resOneF E S r with
    | some v => if argOk v then (resLF S l).map fun vs => v :: vs else none
    | none => none

def resVF (fn : Func) (S : FSt) : Option V :=
  match resLF E S fn.results.toList with
  | none => none
  | some [v] => some v
  | some vs => some (.tup vs)

def startF (n : Nat) (vs : List V) (hp : Heap) (k : FSt → Option (V × Heap)) : Option (V × Heap) :=
  go 0 vs (TT.full 8) fun T => k ⟨T, vs.length + (n - vs.length), [], hp⟩
where
  go : Nat → List V → TT → (TT → Option (V × Heap)) → Option (V × Heap)
    | _, [], T, k => k T
    | i, v :: r, T, k => T.put i v fun T => go (i + 1) r T k

def gCall (F : Tr (Func × Tr RM)) : Nat → Nat → List V → Heap → Option (V × Heap)
  | 0, _, _, _ => none
  | n + 1, f, vs, hp =>
    match F.get f with
    | none => none
    | some (fn, A) =>
      match fn.body with
      | none => none
      | some c =>
        startF fn.ntmps vs hp fun S0 =>
        match gCode P E A (gCall F n) 100000 c S0 with
        | none => none
        | some (e, S) => match e with
          | .exit _ => none
          | _ => match resVF E fn S with
            | none => none
            | some v => some (v, S.hp)

variable {P E}

theorem gCode_some {A : Tr RM} {call call' : Nat → List V → Heap → Option (V × Heap)} (hcc : ∀ f vs hp r, call f vs hp = some r → call' f vs hp = some r) : ∀ (n : Nat) (c : Code) (F : FSt) (S : St) (e : Ex) (F' : FSt), Rep F S → gCode P E A call n c F = some (e, F') → ∃ S', eCode P E A call' n c S = some (e, S') ∧ Rep F' S' := by
  intro n
  induction n with
  | zero => intro c F S e F' _ h; simp [gCode] at h
  | succ n ih =>
    intro c F S e F' hR h
    cases c with
    | skip =>
      simp only [gCode, Option.some.injEq, Prod.mk.injEq] at h
      obtain ⟨rfl, rfl⟩ := h
      exact ⟨S, rfl, hR⟩
    | region id ops d =>
      simp only [gCode] at h
      simp only [eCode]
      split at h
      · cases h
      · rename_i rm hA
        split at h
        · cases h
        · rename_i F1 h1
          simp only [Option.some.injEq, Prod.mk.injEq] at h
          obtain ⟨rfl, rfl⟩ := h
          obtain ⟨S1, hS, hR1⟩ := gReg_some hcc hR h1
          refine ⟨S1, ?_, hR1⟩
          rw [hA]; dsimp only; rw [hS]
    | seq x y =>
      simp only [gCode] at h
      simp only [eCode]
      split at h
      · cases h
      · rename_i e1 F1 h1
        obtain ⟨S1, hS, hR1⟩ := ih x F S e1 F1 hR h1
        rw [hS]
        cases e1 with
        | normal => exact ih y F1 S1 e F' hR1 h
        | exit id =>
          simp only [Option.some.injEq, Prod.mk.injEq] at h
          obtain ⟨rfl, rfl⟩ := h
          exact ⟨S1, rfl, hR1⟩
        | ret =>
          simp only [Option.some.injEq, Prod.mk.injEq] at h
          obtain ⟨rfl, rfl⟩ := h
          exact ⟨S1, rfl, hR1⟩
    | cond x a b =>
      simp only [gCode] at h
      simp only [eCode]
      rw [evF_eq hR.tm] at h
      split at h
      · cases h
      · rename_i t ht
        rw [ht]
        cases t with
        | true => exact ih a F S e F' hR h
        | false => exact ih b F S e F' hR h
    | block id x =>
      simp only [gCode] at h
      simp only [eCode]
      split at h
      · cases h
      · rename_i e1 F1 h1
        obtain ⟨S1, hS, hR1⟩ := ih x F S e1 F1 hR h1
        rw [hS]
        cases e1 with
        | normal =>
          simp only [Option.some.injEq, Prod.mk.injEq] at h
          obtain ⟨rfl, rfl⟩ := h
          exact ⟨S1, rfl, hR1⟩
        | exit id' =>
          dsimp only at h ⊢
          cases hb : Nat.beq id' id with
          | true =>
            rw [hb] at h
            simp only [cond_true, Option.some.injEq, Prod.mk.injEq] at h
            obtain ⟨rfl, rfl⟩ := h
            exact ⟨S1, rfl, hR1⟩
          | false =>
            rw [hb] at h
            simp only [cond_false, Option.some.injEq, Prod.mk.injEq] at h
            obtain ⟨rfl, rfl⟩ := h
            exact ⟨S1, rfl, hR1⟩
        | ret =>
          simp only [Option.some.injEq, Prod.mk.injEq] at h
          obtain ⟨rfl, rfl⟩ := h
          exact ⟨S1, rfl, hR1⟩
    | loop x =>
      simp only [gCode] at h
      simp only [eCode]
      split at h
      · cases h
      · rename_i e1 F1 h1
        obtain ⟨S1, hS, hR1⟩ := ih x F S e1 F1 hR h1
        rw [hS]
        cases e1 with
        | normal => exact ih (.loop x) F1 S1 e F' hR1 h
        | exit id =>
          simp only [Option.some.injEq, Prod.mk.injEq] at h
          obtain ⟨rfl, rfl⟩ := h
          exact ⟨S1, rfl, hR1⟩
        | ret =>
          simp only [Option.some.injEq, Prod.mk.injEq] at h
          obtain ⟨rfl, rfl⟩ := h
          exact ⟨S1, rfl, hR1⟩
    | exit id =>
      simp only [gCode, Option.some.injEq, Prod.mk.injEq] at h
      obtain ⟨rfl, rfl⟩ := h
      exact ⟨S, rfl, hR⟩
    | ret =>
      simp only [gCode, Option.some.injEq, Prod.mk.injEq] at h
      obtain ⟨rfl, rfl⟩ := h
      exact ⟨S, rfl, hR⟩
    | rangeFunc _ _ _ _ => simp [gCode] at h
    | scope _ => simp [gCode] at h
    | label _ => simp [gCode] at h
    | goto _ => simp [gCode] at h
    | refuse _ => simp [gCode] at h

omit [Glob] in
theorem resOneF_eq {F : FSt} {S : St} (hR : Rep F S) (r : ResultVar) : resOneF E F r = resOne E S r := by
  cases r with
  | tmp t => simp only [resOneF, resOne, hR.tm]
  | cell a t =>
    simp only [resOneF, resOne, hR.tm, St.box, hR.bx, hR.hp]
    rfl

omit [Glob] in
theorem resLF_eq {F : FSt} {S : St} (hR : Rep F S) : ∀ l : List ResultVar, resLF E F l = resL E S l
  | [] => rfl
  | r :: l => by
    simp only [resLF, resL]
    rw [resOneF_eq hR, resLF_eq hR l]
    cases resOne E S r <;> rfl

omit [Glob] in
theorem resVF_eq {F : FSt} {S : St} (hR : Rep F S) (fn : Func) : resVF E fn F = resV E fn S := by
  unfold resVF resV
  rw [resLF_eq hR]
  cases resL E S fn.results.toList with
  | none => rfl
  | some l => cases l with
    | nil => rfl
    | cons v r => cases r <;> rfl

omit [Glob] in
theorem startF_go {k : TT → Option (V × Heap)} {res : V × Heap} : ∀ (vs : List V) (i : Nat) (T : TT), startF.go i vs T k = some res → (∀ m, i ≤ m → T.get m = .dead) → ∃ T', k T' = some res ∧ ∀ m, T'.get m = if i ≤ m ∧ m < i + vs.length then vs.getD (m - i) .dead else T.get m
  | [], i, T, h, _ => ⟨T, h, fun m => by rw [if_neg (by simp)]⟩
  | v :: vs, i, T, h, hd => by
    simp only [startF.go] at h
    obtain ⟨T1, h1, hg⟩ := TT.put_some T i v _ _ h
    obtain ⟨T', hk, hg'⟩ := startF_go vs (i + 1) T1 h1 (fun m hm => by rw [hg, if_neg (by omega)]; exact hd m (by omega))
    refine ⟨T', hk, fun m => ?_⟩
    rw [hg', hg]
    by_cases e : i = m
    · subst e
      rw [if_neg (by omega), if_pos rfl, if_pos (by simp)]
      simp
    · by_cases e2 : i + 1 ≤ m ∧ m < i + 1 + vs.length
      · rw [if_pos e2, if_pos (by simp; omega)]
        rw [show m - i = (m - (i + 1)) + 1 by omega]
        simp
      · rw [if_neg e2, if_neg e, if_neg (by simp; omega)]

omit [Glob] in
theorem startF_some {n : Nat} {vs : List V} {hp : Heap} {k : FSt → Option (V × Heap)} {res : V × Heap} (h : startF n vs hp k = some res) : ∃ F, k F = some res ∧ Rep F { tm := vs ++ List.replicate (n - vs.length) .dead, bx := [], hp := hp } := by
  unfold startF at h
  obtain ⟨T', hk, hg⟩ := startF_go vs 0 _ h (fun m _ => TT.get_full 8 m)
  refine ⟨_, hk, ?_, fun t => ?_, rfl, rfl⟩
  · simp
  · dsimp only
    rw [hg, TT.get_full]
    unfold getT
    by_cases e : t < vs.length
    · rw [List.getElem?_append_left e, if_pos (by omega)]
      simp [e]
    · rw [List.getElem?_append_right (by omega), if_neg (by omega), List.getElem?_replicate]
      split <;> rfl

theorem gCall_some {T : Tr (Func × Tr RM)} : ∀ (n f : Nat) (vs : List V) (hp : Heap) (r : V × Heap), gCall P E T n f vs hp = some r → eCall P E T n f vs hp = some r
  | 0, _, _, _, _, h => by simp [gCall] at h
  | n + 1, f, vs, hp, r, h => by
    simp only [gCall] at h
    simp only [eCall]
    split at h
    · cases h
    · rename_i fn A hg
      rw [hg]
      dsimp only
      split at h
      · cases h
      · rename_i c hc
        rw [hc]
        dsimp only
        rw [allK_eq]
        obtain ⟨F, hk, hR⟩ := startF_some h
        split at hk
        · cases hk
        · rename_i e F' hrun
          obtain ⟨S', hS, hR'⟩ := gCode_some (call' := eCall P E T n) (fun f vs hp r h => gCall_some n f vs hp r h) 100000 c F _ e F' hR hrun
          rw [hS]
          cases e with
          | exit id => cases hk
          | normal => dsimp only at hk ⊢; rw [resVF_eq hR', ← hR'.hp] at hk; exact hk
          | ret => dsimp only at hk ⊢; rw [resVF_eq hR', ← hR'.hp] at hk; exact hk
end
end Go.Hx
