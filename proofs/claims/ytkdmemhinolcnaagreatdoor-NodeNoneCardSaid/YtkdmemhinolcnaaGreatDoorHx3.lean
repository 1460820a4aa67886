/-
  A library of this claim, part 3: what each operation of the program does to abstract values and memory, proved once against the model; an engine over it that the kernel can run, and its soundness. No condition.
-/
import Derived.Test.YtkdmemhinolcnaaGreatDoorHx2
import Derived.Orders
/-
  Hx: an operation of a region, as an update; on what it depends.
-/
namespace Go.Hx
open Go

section
variable [Glob] (P : Program) (E : Env)

def opU (call : Nat → List V → Heap → Option (V × Heap)) (oa : OA) (o : Oper) (S : St) : Option Upd :=
  match o.op with
  | .call { callee := .value x, args, .. } =>
    match evO S.tm oa.take 0 x with
    | .clo f fst cs =>
      let vs := (fst ++ argsV P E S.tm oa.take f fst.length args.toList ++ cs).map V.strip
      if vs.all argOk && noSt S.tm then (call f vs S.hp).map fun r => { tw := oa.take.map (fun t => (t, V.dead)) ++ (match o.dst with | some d => [(d, r.1)] | none => []), hw := some r.2 } else none
    | _ => none
  | _ => (stepOut E oa o S.tm S.box S.hp).run

def effU (call : Nat → List V → Heap → Option (V × Heap)) (ops : Array Oper) (i : Nat) (oa : OA) (S : St) : Option Upd :=
  match ops[i]? with
  | none => none
  | some o =>
    match wantedV ops o S with
    | none => none
    | some true => opU P E call oa o S
    | some false => some { tw := match o.dst with | some d => [(d, .tup [])] | none => [] }

variable {P E} {call : Nat → List V → Heap → Option (V × Heap)} {ops : Array Oper}

theorem opRun_eq (oa : OA) (o : Oper) (S : St) : opRun P E call oa o S = (opU P E call oa o S).map S.apply := by
  unfold opRun opU
  split
  · rename_i x args ats hop
    split
    · rename_i f fst cs hv
      dsimp only
      split
      · rw [hop]; dsimp only; rw [hv]; dsimp only
        rename_i hc
        rw [if_pos hc, Option.map_map]; rfl
      · rw [hop]; dsimp only; rw [hv]; dsimp only
        rename_i hc
        rw [if_neg hc]; rfl
    · rename_i hv
      rw [hop]; dsimp only
      split
      · rename_i f fst cs hv'
        exact absurd hv' (hv f fst cs)
      · rfl
  · rename_i hno
    split
    · rename_i x args ats hop
      exact absurd hop (hno x args ats)
    · rfl

theorem evO_congr {take : List Nat} {tm tm' : List V} {x : Operand} (h : ∀ t, x = .tmp t → tm[t]? = tm'[t]?) (k : Nat) : evO tm take k x = evO tm' take k x := by
  cases x with
  | tmp t => simp only [evO, getT, h t rfl]
  | _ => rfl

theorem argsV_congr {take : List Nat} {tm tm' : List V} {f : Nat} : ∀ (xs : List Operand) (i : Nat), (∀ x ∈ xs, ∀ k, evO tm take k x = evO tm' take k x) → argsV P E tm take f i xs = argsV P E tm' take f i xs
  | [], _, _ => rfl
  | x :: xs, i, h => by
    simp only [argsV]
    rw [h x (by simp), argsV_congr xs (i + 1) fun y hy => h y (by simp [hy])]

omit [Glob] in
theorem looks_op {o : Oper} {t : Nat} {x : Operand} (hx : x ∈ o.op.operands.toList) (ht : x = .tmp t) : t ∈ o.looksAt ops := by
  unfold Oper.looksAt
  refine List.mem_append.2 (.inl (List.mem_filterMap.2 ⟨x, hx, by rw [ht]⟩))

omit [Glob] in
theorem looks_guard {o : Oper} {j : Nat} {w : Bool} {d : Nat} (hg : o.guard = some (j, w)) (hd : (ops[j]?).bind (·.dst) = some d) : d ∈ o.looksAt ops := by
  unfold Oper.looksAt
  refine List.mem_append.2 (.inr ?_)
  rw [hg]; dsimp only; rw [hd]; simp

omit [Glob] in
theorem wantedV_congr {o : Oper} {S T : St} (h : ∀ t ∈ o.looksAt ops, S.tm[t]? = T.tm[t]?) : wantedV ops o S = wantedV ops o T := by
  unfold wantedV
  cases hg : o.guard with
  | none => rfl
  | some p =>
    obtain ⟨j, w⟩ := p
    dsimp only
    cases hd : (ops[j]?).bind (·.dst) with
    | none => rfl
    | some d =>
      dsimp only
      have := h d (looks_guard hg hd)
      unfold getT
      rw [this]

theorem effU_tm {i : Nat} {o : Oper} {oa : OA} {S T : St} (ho : ops[i]? = some o) (h : ∀ t ∈ o.looksAt ops, S.tm[t]? = T.tm[t]?) (hn : nsRead o = true → noSt S.tm = noSt T.tm) (hb : S.box = T.box) (hh : S.hp = T.hp) :
    effU P E call ops i oa S = effU P E call ops i oa T := by
  unfold effU
  rw [ho]
  dsimp only
  rw [wantedV_congr h]
  have hev : SameEv o oa.take S.tm T.tm := fun x hx k => evO_congr (fun t ht => h t (looks_op hx ht)) k
  have : opU P E call oa o S = opU P E call oa o T := by
    unfold opU
    split
    · rename_i x args ats hop
      have hx : evO S.tm oa.take 0 x = evO T.tm oa.take 0 x := hev x (by rw [hop]; simp [Op.operands, Call.operands]) 0
      have ha : ∀ f k, argsV P E S.tm oa.take f k args.toList = argsV P E T.tm oa.take f k args.toList := fun f k => argsV_congr _ _ fun y hy k => hev y (by rw [hop]; simp [Op.operands, Call.operands]; right; simpa using hy) k
      have hns := hn (by unfold nsRead; rw [hop])
      rw [hx]
      cases evO T.tm oa.take 0 x <;> try rfl
      dsimp only
      rw [ha, hns, hh]
    · rw [stepOut_tm hev hn, hb, hh]
  rw [this]

/-- it looks at no box s -/
def NoBox (E : Env) (oa : OA) (o : Oper) (tm : List V) (s : Nat) : Prop :=
  pureOp E oa o = true ∨ (o.dst ≠ some s ∧ ∀ x ∈ o.op.operands.toList, ∀ k, (∀ q, evO tm oa.take k x ≠ .lptr s q) ∧ ∀ q k' n c, evO tm oa.take k x ≠ .lmsl s q k' n c)

theorem effU_box {i : Nat} {o : Oper} {oa : OA} {S T : St} (ho : ops[i]? = some o) (ht : S.tm = T.tm) (hh : S.hp = T.hp) (hb : ∀ s, S.box s = T.box s ∨ NoBox E oa o S.tm s) :
    effU P E call ops i oa S = effU P E call ops i oa T := by
  unfold effU
  rw [ho]
  dsimp only
  rw [wantedV_congr (T := T) (fun t _ => by rw [ht])]
  have : opU P E call oa o S = opU P E call oa o T := by
    unfold opU
    split
    · rename_i x args ats hop
      rw [ht, hh]
    · by_cases hp : pureOp E oa o = true
      · rw [ht, stepOut_pure hp]
      · rw [← ht, ← hh]
        rw [stepOut_box (bxg' := T.box)]
        · intro d hd
          rcases hb d with e | e
          · exact e
          · exact absurd hd (e.resolve_left hp).1
        · intro x hx k s q he
          rcases hb s with e | e
          · exact e
          · exact absurd he (((e.resolve_left hp).2 x hx k).1 q)
        · intro x hx k s q k' n c he
          rcases hb s with e | e
          · exact e
          · exact absurd he (((e.resolve_left hp).2 x hx k).2 q k' n c)
  rw [this]

theorem effU_eqv {i : Nat} {oa : OA} {S T : St} (h : S.Eqv T) : effU P E call ops i oa S = effU P E call ops i oa T := by
  cases ho : ops[i]? with
  | none => unfold effU; rw [ho]
  | some o => exact effU_tm ho (fun t _ => by rw [h.tm]) (fun _ => by rw [h.tm]) h.box h.hp

/-- the updates of a run in the order of the text -/
theorem opsRun_upds : ∀ (l : List (Nat × OA)) (S S' : St), opsRun P E call ops l S = some S' →
    ∃ us : List Upd, us.length = l.length ∧ us.foldl St.apply S = S' ∧ ∀ (k i : Nat) (oa : OA), l[k]? = some (i, oa) → ∃ u, us[k]? = some u ∧ effU P E call ops i oa ((us.take k).foldl St.apply S) = some u
  | [], S, S', h => by
    simp only [opsRun, Option.some.injEq] at h
    exact ⟨[], rfl, h, fun k i oa hk => by simp at hk⟩
  | (i, oa) :: l, S, S', h => by
    have key : ∃ u, effU P E call ops i oa S = some u ∧ opsRun P E call ops l (S.apply u) = some S' := by
      simp only [opsRun] at h
      unfold effU
      split at h
      · cases h
      · rename_i o ho
        split at h
        · cases h
        · rename_i hw
          simp only [ho, hw]
          obtain ⟨S1, h1, h2⟩ := Option.bind_eq_some_iff.1 h
          rw [opRun_eq] at h1
          obtain ⟨u, hu, rfl⟩ := Option.map_eq_some_iff.1 h1
          exact ⟨u, hu, h2⟩
        · rename_i hw
          simp only [ho, hw]
          refine ⟨_, rfl, ?_⟩
          cases hd : o.dst with
          | none => rw [hd] at h; exact h
          | some d => rw [hd] at h; exact h
    obtain ⟨u, hu, hr⟩ := key
    obtain ⟨us, h1, h2, h3⟩ := opsRun_upds l _ _ hr
    refine ⟨u :: us, by simp [h1], by simpa using h2, fun k j ob hk => ?_⟩
    cases k with
    | zero =>
      simp at hk
      obtain ⟨rfl, rfl⟩ := hk
      exact ⟨u, rfl, by simpa using hu⟩
    | succ k =>
      obtain ⟨v, hv, he⟩ := h3 k j ob (by simpa using hk)
      exact ⟨v, by simpa using hv, by simpa using he⟩
end
end Go.Hx

/-
  Hx: a region that draws its order: all orders do what the order of the text does.
-/
namespace Go.Hx
open Go

theorem exists_least {p : Nat → Prop} : ∀ n, p n → ∃ m, m ≤ n ∧ p m ∧ ∀ k, k < m → ¬ p k := by
  intro n
  induction n using Nat.strongRecOn with
  | _ n ih =>
    intro hn
    by_cases h : ∃ k, k < n ∧ p k
    · obtain ⟨k, hk, hp⟩ := h
      obtain ⟨m, h1, h2, h3⟩ := ih k hk hp
      exact ⟨m, by omega, h2, h3⟩
    · exact ⟨n, Nat.le_refl _, hn, fun k hk hp => h ⟨k, hk, hp⟩⟩

theorem exists_most {p : Nat → Prop} (b : Nat) (hb : ∀ k, p k → k < b) {n : Nat} (hn : p n) : ∃ m, n ≤ m ∧ p m ∧ ∀ k, m < k → ¬ p k := by
  obtain ⟨d, h1, h2, h3⟩ := exists_least (p := fun d => d ≤ b ∧ p (b - d)) (b - n) ⟨by omega, by
    have := hb n hn
    rw [show b - (b - n) = n by omega]; exact hn⟩
  refine ⟨b - d, by have := hb n hn; omega, h2.2, fun k hk hp => ?_⟩
  have hkb := hb k hp
  exact h3 (b - k) (by omega) ⟨by omega, by rw [show b - (b - k) = k by omega]; exact hp⟩

section
variable [Glob] (P : Program) (E : Env) (call : Nat → List V → Heap → Option (V × Heap)) (ops : Array Oper) (l : List (Nat × OA)) (us : List Upd) (S0 : St)

def stAt (i : Nat) : St := stX us (fun q => decide (q < i)) 0 S0

def isHw (x : Nat) : Prop := ∃ u h, us[x]? = some u ∧ u.hw = some h

/-- what x does does not matter to y -/
structure Ind (x y : Nat) : Prop where
  look : ∀ (o : Oper) u, ops[y]? = some o → us[x]? = some u → ∀ t ∈ o.looksAt ops, t ∉ u.tw.map (·.1)
  apart : ∀ u v, us[x]? = some u → us[y]? = some v → Apart u v
  box : ∀ (o : Oper) (oa : OA) (u : Upd) s c, ops[y]? = some o → l[y]? = some (y, oa) → us[x]? = some u → u.bw = some (s, c) → NoBox E oa o (stAt us S0 y).tm s
  heap : ∀ oa u v h, l[y]? = some (y, oa) → us[x]? = some u → us[y]? = some v → u.hw = some h → effU P E call ops y oa { stAt us S0 y with hp := (stAt us S0 x).hp } = some v ∧ effU P E call ops y oa { stAt us S0 y with hp := h } = some v

structure Drawn (anc : Nat → Nat → Prop) : Prop where
  len : us.length = ops.size
  lat : ∀ i, i < ops.size → ∃ oa, l[i]? = some (i, oa)
  eff : ∀ (i : Nat) (oa : OA), l[i]? = some (i, oa) → ∃ u, us[i]? = some u ∧ effU P E call ops i oa (stAt us S0 i) = some u
  back : ∀ (i : Nat) (o : Oper) (e : Edge), ops[i]? = some o → e ∈ o.after → Region.binds .any e = true → e.on < i
  ancs : ∀ (i j : Nat), anc i j → j < i ∧ ∃ o : Oper, ops[i]? = some o ∧ ∃ e ∈ o.after, Region.binds .any e = true ∧ (e.on = j ∨ anc e.on j)
  ind : ∀ x y, x < ops.size → y < ops.size → x ≠ y → ¬ anc x y → ¬ anc y x → Ind P E call ops l us S0 x y
  ns : (∃ (i : Nat) (o : Oper), ops[i]? = some o ∧ nsRead o = true) → noSt S0.tm = true ∧ ∀ u ∈ us, ∀ p ∈ u.tw, (match p.2 with | .stamp .. | .ment .. => false | _ => true) = true

/-- what has been done: with each operation all that it waits for -/
def Down (X : Nat → Bool) : Prop := ∀ (i : Nat) (o : Oper) (e : Edge), X i = true → ops[i]? = some o → e ∈ o.after → Region.binds .any e = true → X e.on = true

variable {P E call ops l us S0} {anc : Nat → Nat → Prop}

theorem Drawn.down (h : Drawn P E call ops l us S0 anc) {X : Nat → Bool} (hX : Down ops X) : ∀ i, (X i = true ∨ ∀ (o : Oper) (e : Edge), ops[i]? = some o → e ∈ o.after → Region.binds .any e = true → X e.on = true) → ∀ j, anc i j → X j = true := by
  intro i
  induction i using Nat.strongRecOn with
  | _ i ih =>
    intro hi j hj
    obtain ⟨hlt, o, ho, e, he, hb, hc⟩ := h.ancs i j hj
    have hon : X e.on = true := by
      rcases hi with hi | hi
      · exact hX i o e hi ho he hb
      · exact hi o e ho he hb
    rcases hc with hc | hc
    · rw [← hc]; exact hon
    · exact ih e.on (h.back i o e ho he hb) (.inl hon) j hc

omit [Glob] in
theorem sets_ns (tw : List (Nat × V)) : ∀ tm, noSt tm = true → (∀ p ∈ tw, (match p.2 with | .stamp .. | .ment .. => false | _ => true) = true) → noSt (sets tw tm) = true := by
  induction tw with
  | nil => intro tm h _; exact h
  | cons p r ih =>
    intro tm h hp
    simp only [sets, List.foldl_cons] at ih ⊢
    refine ih _ ?_ fun q hq => hp q (by simp [hq])
    unfold noSt at h ⊢
    rw [List.all_eq_true] at h ⊢
    intro v hv
    rcases List.mem_or_eq_of_mem_set hv with hv | hv
    · exact h v hv
    · rw [hv]; exact hp p (by simp)

omit [Glob] in
theorem stX_ns : ∀ (us : List Upd) (X : Nat → Bool) (p : Nat) (S : St), noSt S.tm = true → (∀ u ∈ us, ∀ p ∈ u.tw, (match p.2 with | .stamp .. | .ment .. => false | _ => true) = true) → noSt (stX us X p S).tm = true
  | [], _, _, _, h, _ => h
  | u :: r, X, p, S, h, hu => by
    simp only [stX]
    refine stX_ns r X (p + 1) _ ?_ fun v hv => hu v (by simp [hv])
    cases X p
    · exact h
    · exact sets_ns _ _ h (hu u (by simp))

/-- what is ready does what it does in the order of the text -/
theorem Drawn.same (h : Drawn P E call ops l us S0 anc) {X : Nat → Bool} (hX : Down ops X) {i : Nat} (hi : i < ops.size) (hXi : X i = false)
    (hr : ∀ (o : Oper) (e : Edge), ops[i]? = some o → e ∈ o.after → Region.binds .any e = true → X e.on = true) (hXn : ∀ q, X q = true → q < ops.size)
    {oa : OA} (hl : l[i]? = some (i, oa)) {u : Upd} (hu : us[i]? = some u) : effU P E call ops i oa (stX us X 0 S0) = some u := by
  obtain ⟨u', hu', heff⟩ := h.eff i oa hl
  rw [hu] at hu'; cases hu'
  obtain ⟨o, ho⟩ : ∃ o : Oper, ops[i]? = some o := ⟨ops[i], by simp [hi]⟩
  have hup : ∀ j, anc i j → X j = true := h.down hX i (.inr hr)
  have hno : ∀ q, X q = true → ¬ anc q i := fun q hq ha => by
    have := h.down hX q (.inl hq) i ha
    rw [hXi] at this; cases this
  -- what differs is not ordered with i
  have hun : ∀ q v, us[q]? = some v → X q ≠ decide (q < i) → Ind P E call ops l us S0 q i := fun q v hq hne => by
    have hqn : q < ops.size := by
      rw [← h.len]
      rcases Nat.lt_or_ge q us.length with h' | h'
      · exact h'
      · rw [List.getElem?_eq_none h'] at hq; cases hq
    by_cases hlt : q < i
    · have hXq : X q = false := by
        cases e : X q
        · rfl
        · rw [e] at hne; simp [hlt] at hne
      refine h.ind q i hqn hi (by omega) (fun ha => ?_) (fun ha => ?_)
      · have := (h.ancs q i ha).1; omega
      · have := hup q ha; rw [hXq] at this; cases this
    · have hXq : X q = true := by
        cases e : X q
        · rw [e] at hne; simp [hlt] at hne
        · rfl
      have hqi : q ≠ i := fun e => by rw [e, hXi] at hXq; cases hXq
      refine h.ind q i hqn hi hqi (hno q hXq) (fun ha => ?_)
      have := (h.ancs i q ha).1; omega
  have e0 : ∀ (f : St → Prop), True := fun _ => trivial
  -- the tmps
  have htm : ∀ t ∈ o.looksAt ops, (stX us X 0 S0).tm[t]? = (stAt us S0 i).tm[t]? := fun t ht =>
    stX_proj (fun S => S.tm[t]?) (fun S T v hv => by simp only [apply_tm]; exact sets_at _ _ _ _ hv) us X _ 0 S0 S0 rfl fun q v hq hne S => by
      rw [Nat.zero_add] at hne
      rw [apply_tm]; exact sets_off _ _ _ ((hun q v hq hne).look o v ho hq t ht)
  have hns : nsRead o = true → noSt (stX us X 0 S0).tm = noSt (stAt us S0 i).tm := fun hn => by
    obtain ⟨h1, h2⟩ := h.ns ⟨i, o, ho, hn⟩
    unfold stAt
    rw [stX_ns us X 0 S0 h1 h2, stX_ns us _ 0 S0 h1 h2]
  -- the heap
  have hheap : (stX us X 0 S0).hp = (stAt us S0 i).hp ∨ effU P E call ops i oa { stAt us S0 i with hp := (stX us X 0 S0).hp } = some u := by
    have agree : ∀ m, (∀ q, isHw us q → (X q = true ↔ q < m)) → (stX us X 0 S0).hp = (stAt us S0 m).hp := fun m hm =>
      stX_proj (fun S => S.hp) (fun S T v hv => by simp only [apply_hp]; rw [hv]) us X _ 0 S0 S0 rfl fun q v hq hne S => by
        rw [Nat.zero_add] at hne
        rw [apply_hp]
        cases hv : v.hw with
        | none => rfl
        | some hh =>
          exfalso
          have := hm q ⟨v, hh, hq, hv⟩
          apply hne
          cases e : X q
          · have hnl : ¬ q < m := fun hl => by have := this.2 hl; rw [e] at this; cases this
            simp [hnl]
          · simp [this.1 e]
    have hbound : ∀ q, isHw us q → q < ops.size := fun q ⟨v, hh, hq, _⟩ => by
      rw [← h.len]
      rcases Nat.lt_or_ge q us.length with h' | h'
      · exact h'
      · rw [List.getElem?_eq_none h'] at hq; cases hq
    have chain : ∀ x y, isHw us x → isHw us y → x < y → anc y x := fun x y hx hy hlt => Classical.byContradiction fun hna => by
      have hI := h.ind x y (hbound x hx) (hbound y hy) (by omega) (fun ha => by have := (h.ancs x y ha).1; omega) hna
      obtain ⟨v, hh, h1, h2⟩ := hx
      obtain ⟨v', hh', h3, h4⟩ := hy
      rcases (hI.apart v v' h1 h3).hw with e | e
      · rw [h2] at e; cases e
      · rw [h4] at e; cases e
    by_cases hA : ∃ x, i < x ∧ X x = true ∧ isHw us x
    · obtain ⟨x0, hx0⟩ := hA
      obtain ⟨x, hle, ⟨hix, hXx, hwx⟩, hmost⟩ := exists_most (p := fun x => i < x ∧ X x = true ∧ isHw us x) ops.size (fun k hk => hbound k hk.2.2) hx0
      have hhp : (stX us X 0 S0).hp = (stAt us S0 (x + 1)).hp := agree (x + 1) fun q hq => by
        constructor
        · intro hXq
          rcases Nat.lt_or_ge x q with hxq | hxq
          · exact absurd ⟨by omega, hXq, hq⟩ (hmost q hxq)
          · omega
        · intro hlt
          rcases Nat.lt_or_ge q x with hqx | hqx
          · exact h.down hX x (.inl hXx) q (chain q x hq hwx hqx)
          · have : q = x := by omega
            rw [this]; exact hXx
      obtain ⟨v, hh, hv, hvh⟩ := id hwx
      have hst : (stAt us S0 (x + 1)).hp = hh := by
        have e1 : stAt us S0 (x + 1) = (us.take (x + 1)).foldl St.apply S0 := by
          have := stX_take us (x + 1) 0 S0
          rw [Nat.zero_add] at this
          exact this
        have : us.take (x + 1) = us.take x ++ [v] := by rw [List.take_add_one, hv]; rfl
        rw [e1, this, List.foldl_append]
        simp only [List.foldl_cons, List.foldl_nil, apply_hp, hvh]
      have hI := hun x v hv (by rw [hXx]; have : ¬ x < i := by omega
                                simp [this])
      right
      rw [hhp, hst]
      exact (hI.heap oa v u hh hl hv hu hvh).2
    · by_cases hB : ∃ x, x < i ∧ X x = false ∧ isHw us x
      · obtain ⟨x0, hx0⟩ := hB
        obtain ⟨x, hle, ⟨hix, hXx, hwx⟩, hleast⟩ := exists_least (p := fun x => x < i ∧ X x = false ∧ isHw us x) x0 hx0
        have hhp : (stX us X 0 S0).hp = (stAt us S0 x).hp := agree x fun q hq => by
          constructor
          · intro hXq
            rcases Nat.lt_or_ge q x with hqx | hqx
            · exact hqx
            · exfalso
              rcases Nat.lt_or_ge x q with hxq | hxq
              · have := h.down hX q (.inl hXq) x (chain x q hwx hq hxq)
                rw [hXx] at this; cases this
              · have : q = x := by omega
                rw [this, hXx] at hXq; cases hXq
          · intro hlt
            cases e : X q
            · exact absurd ⟨by omega, e, hq⟩ (hleast q hlt)
            · rfl
        obtain ⟨v, hh, hv, hvh⟩ := id hwx
        have hI := hun x v hv (by rw [hXx]; simp [hix])
        right
        rw [hhp]
        exact (hI.heap oa v u hh hl hv hu hvh).1
      · left
        refine agree i fun q hq => ?_
        constructor
        · intro hXq
          rcases Nat.lt_or_ge q i with hqi | hqi
          · exact hqi
          · exfalso
            rcases Nat.lt_or_ge i q with hiq | hiq
            · exact hA ⟨q, hiq, hXq, hq⟩
            · have : q = i := by omega
              rw [this, hXi] at hXq; cases hXq
        · intro hlt
          cases e : X q
          · exact absurd ⟨q, hlt, e, hq⟩ hB
          · rfl
  -- one after the other
  have s1 : effU P E call ops i oa (stX us X 0 S0) = effU P E call ops i oa { stX us X 0 S0 with tm := (stAt us S0 i).tm } := effU_tm ho htm hns rfl rfl
  have s2 : effU P E call ops i oa { stX us X 0 S0 with tm := (stAt us S0 i).tm } = effU P E call ops i oa { stAt us S0 i with hp := (stX us X 0 S0).hp } := by
    refine effU_box ho rfl rfl fun s => ?_
    by_cases hd : ∃ q v c, us[q]? = some v ∧ X q ≠ decide (q < i) ∧ v.bw = some (s, c)
    · obtain ⟨q, v, c, hq, hne, hbw⟩ := hd
      exact .inr ((hun q v hq hne).box o oa v s c ho hl hq hbw)
    · left
      refine stX_proj (fun S => S.box s) (fun S T v hv => by simp only [apply_box]; rw [hv]) us X _ 0 S0 S0 rfl fun q v hq hne S => ?_
      rw [Nat.zero_add] at hne
      rw [apply_box]
      cases hbw : v.bw with
      | none => rfl
      | some p =>
        obtain ⟨s', c⟩ := p
        dsimp only
        rw [if_neg]
        intro e; subst e
        exact hd ⟨q, v, c, hq, hne, hbw⟩
  rw [s1, s2]
  rcases hheap with e | e
  · rw [e]; exact heff
  · exact e
end
end Go.Hx

/-
  Hx: a region that draws its order, against the model's rule.
-/
namespace Go.Hx
open Go

/-- how many are not yet done -/
def todo (X : Nat → Bool) : Nat → Nat
  | 0 => 0
  | n + 1 => todo X n + (if X n then 0 else 1)

theorem todo_congr {X Y : Nat → Bool} : ∀ n, (∀ q, q < n → X q = Y q) → todo X n = todo Y n
  | 0, _ => rfl
  | n + 1, h => by simp only [todo]; rw [todo_congr n fun q hq => h q (by omega), h n (by omega)]

theorem todo_add {X : Nat → Bool} {i : Nat} (hX : X i = false) : ∀ n, i < n → todo (addX X i) n + 1 = todo X n
  | 0, h => by omega
  | n + 1, h => by
    simp only [todo]
    by_cases e : i = n
    · subst e
      rw [hX]
      have : addX X i i = true := by simp [addX]
      rw [this]
      have := todo_congr (X := addX X i) (Y := X) i fun q hq => by
        simp only [addX]; have : (q == i) = false := by simp; omega
        simp [this]
      simp [this]
    · have h1 := todo_add hX n (by omega)
      have h2 : addX X i n = X n := by
        simp only [addX]; have : (n == i) = false := by simp; omega
        simp [this]
      rw [h2]; omega

theorem todo_zero {X : Nat → Bool} : ∀ n, todo X n = 0 → ∀ q, q < n → X q = true
  | 0, _, q, hq => by omega
  | n + 1, h, q, hq => by
    simp only [todo] at h
    by_cases e : q = n
    · subst e
      cases hX : X q
      · rw [hX] at h; simp at h
      · rfl
    · exact todo_zero n (by omega) q (by omega)

section
variable [Glob] {P : Program} {E : Env} {call : Nat → List V → Heap → Option (V × Heap)} {ops : Array Oper} {l : List (Nat × OA)} {us : List Upd} {S0 : St} {anc : Nat → Nat → Prop}

theorem effOp_wp (hE : EnvM P E) (hcall : ∀ f vs hp v hp', call f vs hp = some (v, hp') → CallOK P f vs hp v hp' ∧ Enters P f) {i : Nat} {oa : OA} {u : Upd} {T : St} {φ : Phi} {lam : Nat → Nat} {perm : Perm} {a : Act} {w : World}
    (h : FRs φ lam perm T a w.heap) (he : effU P E call ops i oa T = some u) {K : Act → World → Prop} {Q : Exit → Act → World → Prop} (hn : ∀ a' w', Nx φ perm T w (T.apply u) a' w' → K a' w') : wpOp P ops Q i K a w := by
  unfold effU at he
  unfold wpOp
  cases ho : ops[i]? with
  | none => rw [ho] at he; cases he
  | some o =>
    rw [ho] at he
    dsimp only at he ⊢
    cases hw : wantedV ops o T with
    | none => rw [hw] at he; cases he
    | some b =>
      rw [wanted_sound h hw]
      rw [hw] at he
      cases b with
      | true =>
        dsimp only at he
        simp only [if_true]
        exact .inl (opRun_wp hE h hcall (oa := oa) (S' := T.apply u) (by rw [opRun_eq, he]; rfl) hn)
      | false =>
        simp only [Option.some.injEq] at he
        simp only [Bool.false_eq_true, if_false]
        subst he
        cases hd : o.dst with
        | none =>
          rw [hd] at hn
          exact hn _ _ (Nx.refl h)
        | some d =>
          rw [hd] at hn
          have hF := h.setT (d := d) (v := .tup []) (x := undef) ⟨VR.tup (fun _ => undef) rfl (fun i hi => by simp at hi) (fun i v hv => by simp at hv), by unfold Rt; trivial⟩
          refine hn _ _ ⟨⟨φ, lam, perm, hF, Evo.refl _ _, fun _ _ => rfl, fun _ _ _ h => h⟩, Nat.le_refl _, rfl, rfl, rfl⟩

theorem Drawn.any_wp (h : Drawn P E call ops l us S0 anc) (hE : EnvM P E) (hcall : ∀ f vs hp v hp', call f vs hp = some (v, hp') → CallOK P f vs hp v hp' ∧ Enters P f) {Q : Exit → Act → World → Prop} :
    ∀ (fuel : Nat) (listed : Array Bool), listed.size = ops.size → todo (fun q => listed.getD q false) ops.size ≤ fuel → Down ops (fun q => listed.getD q false) →
      ∀ (T : St) (φ : Phi) (lam : Nat → Nat) (perm : Perm) (a : Act) (w : World), FRs φ lam perm T a w.heap → T.Eqv (stX us (fun q => listed.getD q false) 0 S0) →
        (∀ a' w', Nx φ perm T w (us.foldl St.apply S0) a' w' → Q .normal a' w') → wpAny P .any ops Q fuel listed a w := by
  -- all is done
  have done : ∀ (listed : Array Bool), (∀ q, q < ops.size → listed.getD q false = true) → ∀ (T : St) (φ : Phi) (lam : Nat → Nat) (perm : Perm) (a : Act) (w : World), FRs φ lam perm T a w.heap → T.Eqv (stX us (fun q => listed.getD q false) 0 S0) →
        (∀ a' w', Nx φ perm T w (us.foldl St.apply S0) a' w' → Q .normal a' w') → Q .normal a w := fun listed hall T φ lam perm a w hF hT hn => by
    have e1 : stX us (fun q => listed.getD q false) 0 S0 = us.foldl St.apply S0 := by
      have e2 := stX_take us us.length 0 S0
      rw [List.take_length] at e2
      rw [← e2]
      refine stX_congr us _ _ 0 S0 fun q _ hq => ?_
      rw [h.len] at hq ⊢
      rw [hall q (by omega)]
      simp; omega
    rw [e1] at hT
    exact hn a w ⟨⟨φ, lam, perm, hF.eqv hT, Evo.refl _ _, fun _ _ => rfl, fun _ _ _ h => h⟩, by rw [hT.hp]; exact Nat.le_refl _, rfl, rfl, rfl⟩
  intro fuel
  induction fuel with
  | zero =>
    intro listed hsz htodo hX T φ lam perm a w hF hT hn
    have hall : ∀ q, q < ops.size → listed.getD q false = true := todo_zero ops.size (by omega)
    refine ⟨?_, done listed hall T φ lam perm a w hF hT hn⟩
    cases hr : Region.ready .any ops listed with
    | nil => rfl
    | cons j r =>
      have hj : j ∈ Region.ready .any ops listed := by rw [hr]; simp
      obtain ⟨h1, o, ho, -⟩ := mem_ready.1 hj
      have hlt : j < ops.size := (Array.getElem?_eq_some_iff.1 ho).1
      have h2 := hall j hlt
      have hl : j < listed.size := by omega
      simp [hl] at h1 h2
      rw [h1] at h2; cases h2
  | succ fuel ih =>
    intro listed hsz htodo hX T φ lam perm a w hF hT hn
    refine ⟨fun hr => ?_, fun i hi => ?_⟩
    · by_cases hall : ∃ q, q < ops.size ∧ listed.getD q false = false
      · exfalso
        obtain ⟨q0, hq0⟩ := hall
        obtain ⟨q, hle, ⟨hq, hXq⟩, hleast⟩ := exists_least (p := fun q => q < ops.size ∧ listed.getD q false = false) q0 hq0
        have : q ∈ Region.ready .any ops listed := by
          refine mem_ready.2 ⟨?_, ops[q], by simp [hq], fun e he hb => ?_⟩
          · have hl : q < listed.size := by omega
            simp [hl] at hXq ⊢; exact hXq
          · have hlt := h.back q ops[q] e (by simp [hq]) he hb
            cases hx : listed.getD e.on false
            · exact absurd ⟨by omega, hx⟩ (hleast e.on hlt)
            · rfl
        rw [hr] at this; cases this
      · refine done listed (fun q hq => ?_) T φ lam perm a w hF hT hn
        cases hx : listed.getD q false
        · exact absurd ⟨q, hq, hx⟩ hall
        · rfl
    · obtain ⟨h1, o, ho, hall⟩ := mem_ready.1 hi
      have hlt : i < ops.size := (Array.getElem?_eq_some_iff.1 ho).1
      have hl : i < listed.size := by omega
      have hXi : (fun q => listed.getD q false) i = false := by
        simp [hl] at h1 ⊢; exact h1
      obtain ⟨oa, hoa⟩ := h.lat i hlt
      obtain ⟨u, hu, -⟩ := h.eff i oa hoa
      have hsame := h.same hX hlt hXi (fun o' e ho' he hb => by rw [ho] at ho'; cases ho'; exact hall e he hb) (fun q hq => by
        rcases Nat.lt_or_ge q ops.size with h' | h'
        · exact h'
        · have : ¬ q < listed.size := by omega
          simp [this] at hq) hoa hu
      have heff : effU P E call ops i oa T = some u := by rw [effU_eqv hT]; exact hsame
      have eX : ∀ q, (listed.setIfInBounds i true).getD q false = addX (fun q => listed.getD q false) i q := fun q => by
        unfold addX
        by_cases e : i = q
        · subst e; simp [hl]
        · have : (q == i) = false := by simp; omega
          simp only [this, Bool.or_false]
          exact getD_set_ne false e
      refine effOp_wp hE hcall hF heff fun a1 w1 hnx => ?_
      obtain ⟨⟨φ1, lam1, perm1, hF1, hE1, hφ, hhd⟩, hlen, k1, k2, k3⟩ := id hnx
      refine ih (listed.setIfInBounds i true) (by simpa using hsz) ?_ ?_ (T.apply u) φ1 lam1 perm1 a1 w1 hF1 ?_ fun a2 w2 h2 => hn a2 w2 (Nx.step hE1 hφ hhd hlen k1 k2 k3 h2)
      · rw [todo_congr ops.size fun q _ => eX q]
        have := todo_add (X := fun q => listed.getD q false) hXi ops.size hlt
        omega
      · intro j o' e hj ho' he hb
        dsimp only at hj ⊢
        rw [eX] at hj ⊢
        simp only [addX, Bool.or_eq_true, beq_iff_eq] at hj ⊢
        left
        rcases hj with hj | hj
        · exact hX j o' e hj ho' he hb
        · subst hj; rw [ho] at ho'; cases ho'; exact hall e he hb
      · refine (Eqv.apply hT u).trans ?_
        have := stX_add us (fun q => listed.getD q false) 0 i u hu (by rw [Nat.zero_add]; exact hXi) (fun q v hq hiq hXq => ?_) S0
        · rw [Nat.zero_add] at this
          refine this.trans ?_
          rw [stX_congr us _ (fun q => (listed.setIfInBounds i true).getD q false) 0 S0 fun q _ _ => (eX q).symm]
          exact .refl _
        · rw [Nat.zero_add] at hXq
          have hqn : q < ops.size := by
            rw [← h.len]
            rcases Nat.lt_or_ge q us.length with h' | h'
            · exact h'
            · rw [List.getElem?_eq_none h'] at hq; cases hq
          exact (h.ind i q hlt hqn (by omega) (fun ha => by have := (h.ancs i q ha).1; omega) (fun ha => by
            have := h.down hX q (.inl hXq) i ha
            have h3 := hXi.symm.trans this; cases h3)).apart u v hu hq

theorem Drawn.region_wp (h : Drawn P E call ops l us S0 anc) (hE : EnvM P E) (hcall : ∀ f vs hp v hp', call f vs hp = some (v, hp') → CallOK P f vs hp v hp' ∧ Enters P f) (hm : P.follows .mixedOrders = true) {Q : Exit → Act → World → Prop}
    {id : Nat} {φ : Phi} {lam : Nat → Nat} {perm : Perm} {a : Act} {w : World} (hF : FRs φ lam perm S0 a w.heap) (hn : ∀ a' w', Nx φ perm S0 w (us.foldl St.apply S0) a' w' → Q .normal a' w') : (Code.region id ops true).wp P Q a w := by
  refine wp_region_any hm (h.any_wp hE hcall ops.size (Array.replicate ops.size false) (by simp) ?_ ?_ S0 φ lam perm a _ hF ?_ fun a' w' hx => hn a' w' ⟨hx.out, hx.hp, hx.os, hx.tape, hx.output⟩)
  · have : ∀ (X : Nat → Bool) n, todo X n ≤ n := fun X n => by
      induction n with
      | zero => simp [todo]
      | succ n ih => simp only [todo]; split <;> omega
    exact this _ _
  · intro i o e hi
    by_cases hlt : i < ops.size <;> simp [Array.getElem?_replicate, hlt] at hi
  · have : stX us (fun q => (Array.replicate ops.size false).getD q false) 0 S0 = S0 := by
      have e2 := stX_take us 0 0 S0
      simp only [List.take_zero, List.foldl_nil] at e2
      refine (stX_congr us _ _ 0 S0 fun q _ _ => ?_).trans e2
      by_cases hlt : q < ops.size <;> simp [Array.getElem?_replicate, hlt]
    rw [this]; exact .refl _
end
end Go.Hx

/-
  Hx: the engine for the kernel: the same, what is laid being laid out at once.
-/
namespace Go.Hx
open Go

inductive Tr (α : Type) where
  | leaf
  | node (l : Tr α) (k : Nat) (v : α) (r : Tr α)

def Tr.get {α : Type} : Tr α → Nat → Option α
  | .leaf, _ => none
  | .node l k v r, i => bif Nat.beq i k then some v else bif Nat.blt i k then l.get i else r.get i

section
variable {α : Type}

/-- a list with another value at a place, laid out -/
def putK {β : Type} : List β → Nat → β → (List β → α) → α
  | [], _, _, k => k []
  | _ :: xs, 0, v, k => k (v :: xs)
  | x :: xs, n + 1, v, k => putK xs n v fun ys => k (x :: ys)

theorem putK_eq {β : Type} : ∀ (l : List β) (n : Nat) (v : β) (k : List β → α), putK l n v k = k (l.set n v)
  | [], _, _, _ => rfl
  | _ :: _, 0, _, _ => rfl
  | x :: xs, n + 1, v, k => by simp only [putK, putK_eq xs, List.set]

/-- a list laid out -/
def allK {β : Type} : List β → (List β → α) → α
  | [], k => k []
  | x :: xs, k => allK xs fun ys => k (x :: ys)

theorem allK_eq {β : Type} : ∀ (l : List β) (k : List β → α), allK l k = k l
  | [], _ => rfl
  | x :: xs, k => by simp only [allK, allK_eq xs]

def setsK : List (Nat × V) → List V → (List V → α) → α
  | [], tm, k => k tm
  | (t, v) :: r, tm, k => putK tm t v fun tm => setsK r tm k

theorem setsK_eq : ∀ (tw : List (Nat × V)) (tm : List V) (k : List V → α), setsK tw tm k = k (sets tw tm)
  | [], _, _ => rfl
  | (t, v) :: r, tm, k => by simp only [setsK, putK_eq, setsK_eq r, sets, List.foldl_cons]

def applyK (S : St) (u : Upd) (k : St → α) : α :=
  setsK u.tw S.tm fun tm =>
    match u.bw with
    | none => (match u.hw with
      | none => k ⟨tm, S.bx, S.hp⟩
      | some h => allK h fun h => k ⟨tm, S.bx, h⟩)
    | some (s, cs) => allK cs fun cs => (match u.hw with
      | none => allK (setBx S.bx s cs) fun bx => k ⟨tm, bx, S.hp⟩
      | some h => allK (setBx S.bx s cs) fun bx => allK h fun h => k ⟨tm, bx, h⟩)

theorem applyK_eq (S : St) (u : Upd) (k : St → α) : applyK S u k = k (S.apply u) := by
  unfold applyK St.apply
  rw [setsK_eq]
  cases u.bw with
  | none => cases u.hw <;> simp only [allK_eq] <;> rfl
  | some p => obtain ⟨s, cs⟩ := p; cases u.hw <;> simp only [allK_eq] <;> rfl
end

section
variable [Glob] (P : Program) (E : Env)

def qOps (call : Nat → List V → Heap → Option (V × Heap)) (ops : Array Oper) : List Oper → List OA → St → Option St
  | o :: r, oa :: s, S =>
    match wantedV ops o S with
    | none => none
    | some true => match opU P E call oa o S with
      | none => none
      | some u => applyK S u fun S => qOps call ops r s S
    | some false => applyK S { tw := match o.dst with | some d => [(d, .tup [])] | none => [] } fun S => qOps call ops r s S
  | [], _, S => some S
  | _ :: _, [], _ => none

def qCode (A : Tr (List OA)) (call : Nat → List V → Heap → Option (V × Heap)) : Nat → Code → St → Option (Ex × St)
  | 0, _, _ => none
  | n + 1, c, S =>
    match c with
    | .skip => some (.normal, S)
    | .region id ops _ => match A.get id with
      | none => none
      | some l => match qOps P E call ops ops.toList l S with
        | none => none
        | some S => some (.normal, S)
    | .seq x y =>
      match qCode A call n x S with
      | none => none
      | some (e, S') => match e with
        | .normal => qCode A call n y S'
        | e => some (e, S')
    | .cond x a b =>
      match (evO S.tm [] 0 x).bool? with
      | none => none
      | some t => match t with
        | true => qCode A call n a S
        | false => qCode A call n b S
    | .block id x =>
      match qCode A call n x S with
      | none => none
      | some (e, S') => match e with
        | .exit id' => bif Nat.beq id' id then some (.normal, S') else some (.exit id', S')
        | e => some (e, S')
    | .loop x =>
      match qCode A call n x S with
      | none => none
      | some (e, S') => match e with
        | .normal => qCode A call n (.loop x) S'
        | e => some (e, S')
    | .exit id => some (.exit id, S)
    | .ret => some (.ret, S)
    | _ => none

def qCall (F : Tr (Func × Tr (List OA))) : Nat → Nat → List V → Heap → Option (V × Heap)
  | 0, _, _, _ => none
  | n + 1, f, vs, hp =>
    match F.get f with
    | none => none
    | some (fn, A) =>
      match fn.body with
      | none => none
      | some c =>
        allK (vs ++ List.replicate (fn.ntmps - vs.length) .dead) fun tm =>
        match qCode P E A (qCall F n) 100000 c { tm, bx := [], hp } with
        | none => none
        | some (e, S) => match e with
          | .exit _ => none
          | _ => match resV E fn S with
            | none => none
            | some v => some (v, S.hp)
end
end Go.Hx

/-
  Hx: what an operation's update touches.
-/
namespace Go.Hx
open Go

/-- all that may come of it -/
def Out.leaf (C : Upd → Prop) : Out → Prop
  | .fail => True
  | .ok u => C u
  | .pick _ x y => x.leaf C ∧ y.leaf C
  | .need _ _ o => o.leaf C
  | .elem _ _ f => ∀ e, (f e).leaf C
  | .cell _ _ f => ∀ e, (f e).leaf C
  | .byte _ _ f => ∀ e, (f e).leaf C
  | .find _ f g => (∀ v, (f v).leaf C) ∧ g.leaf C
  | .anyb _ f => ∀ b, (f b).leaf C

theorem Out.leaf_run {C : Upd → Prop} : ∀ (o : Out) (u : Upd), o.leaf C → o.run = some u → C u
  | .fail, _, _, h => by cases h
  | .ok _, _, hl, h => by cases h; exact hl
  | .pick true x y, u, hl, h => Out.leaf_run x u hl.1 h
  | .pick false x y, u, hl, h => Out.leaf_run y u hl.2 h
  | .need p (.isTrue hp) o, u, hl, h => Out.leaf_run o u hl h
  | .need p (.isFalse hp) o, u, hl, h => by cases h
  | .elem es i f, u, hl, h => by
    simp only [Out.run] at h
    split at h
    · exact Out.leaf_run _ u (hl _) h
    · cases h
  | .cell es i f, u, hl, h => by
    simp only [Out.run] at h
    split at h
    · exact Out.leaf_run _ u (hl _) h
    · cases h
  | .byte es i f, u, hl, h => by
    simp only [Out.run] at h
    split at h
    · exact Out.leaf_run _ u (hl _) h
    · cases h
  | .find (some v) f g, u, hl, h => Out.leaf_run (f v) u (hl.1 v) h
  | .find none f g, u, hl, h => Out.leaf_run g u hl.2 h
  | .anyb _ _, _, _, h => by cases h

/-- what an update may write -/
def Lf (take : List Nat) (dst : Option Nat) (w : Bool) (u : Upd) : Prop := (∀ t ∈ u.tw.map (·.1), t ∈ take ∨ dst = some t) ∧ (w = false → u.bw = none ∧ u.hw = none)

section
variable {take : List Nat} {dst : Option Nat} {w : Bool}

theorem lf_val (v : V) : (Out.val dst take v).leaf (Lf take dst w) := by
  refine ⟨fun t ht => ?_, fun _ => ⟨rfl, rfl⟩⟩
  cases dst <;> simp at ht
  · exact .inl ht
  · rcases ht with h | h
    · exact .inl h
    · exact .inr (by rw [h])

theorem lf_opt (v : Option V) : (Out.opt dst take v).leaf (Lf take dst w) := by
  cases v with
  | none => trivial
  | some v => exact lf_val v

theorem lf_live (v : V) : (Out.live dst take v).leaf (Lf take dst w) := by
  unfold Out.live
  split
  · trivial
  · exact lf_val v

theorem lf_tw {tw : List (Nat × V)} {bw : Option (Nat × List V)} {hw : Option Heap} (ht : ∀ t ∈ tw.map (·.1), t ∈ take ∨ dst = some t) (hw' : w = true) : (Out.ok { tw, bw, hw }).leaf (Lf take dst w) :=
  ⟨ht, fun h => by rw [hw'] at h; cases h⟩

theorem lf_kill {d : Nat} {v : V} (hd : dst = some d) : ∀ t ∈ (take.map (fun t => (t, V.dead)) ++ [(d, v)]).map (·.1), t ∈ take ∨ dst = some t := fun t ht => by
  simp at ht
  rcases ht with h | h
  · exact .inl h
  · exact .inr (by rw [h, hd])

theorem lf_kills : ∀ t ∈ (take.map (fun t => (t, V.dead))).map (·.1), t ∈ take ∨ dst = some t := fun t ht => by
  simp at ht; exact .inl ht

theorem lf_killo {v : V} : ∀ t ∈ (take.map (fun t => (t, V.dead)) ++ (match dst with | some d => [(d, v)] | none => [])).map (·.1), t ∈ take ∨ dst = some t := fun t ht => by
  cases dst <;> simp at ht
  · exact .inl ht
  · rcases ht with h | h
    · exact .inl h
    · exact .inr (by rw [h])

theorem lf_alloc {mode : Nat} {bxg : Nat → Option (List V)} {hp : Heap} {cs : List V} (hw : w = true) : (outAlloc dst take mode bxg hp cs).leaf (Lf take dst w) := by
  unfold outAlloc
  split
  · trivial
  · split
    · split
      · exact lf_tw (lf_kill rfl) hw
      · split
        · exact lf_tw (lf_kill rfl) hw
        · trivial
    · trivial

theorem lf_slice {mode : Nat} {bxg : Nat → Option (List V)} {hp : Heap} {k n : Nat} {es : List (List V)} (hw : mode = 0 ∨ w = true) : (outSlice dst take mode bxg hp k n es).leaf (Lf take dst w) := by
  unfold outSlice
  split
  · trivial
  · rename_i d
    split
    · exact lf_val _
    · exact lf_tw (lf_kill rfl) (hw.resolve_left (by simp))
    · exact lf_tw (lf_kill rfl) (hw.resolve_left (by simp))
    · rename_i h0 _ _
      split
      · exact lf_tw (lf_kill rfl) (hw.resolve_left h0)
      · trivial

theorem lf_load {ti : TI} {tk : Bool} {bxg : Nat → Option (List V)} {hp : Heap} {a : V} (hw : tk = false ∨ w = true) : (outLoad ti dst take tk bxg hp a).leaf (Lf take dst w) := by
  unfold outLoad
  split
  · split
    · trivial
    · exact lf_opt _
  · split
    · trivial
    · split
      · rename_i hk
        split
        · split
          · trivial
          · exact lf_tw lf_killo (hw.resolve_left (by rw [hk]; simp))
        · trivial
      · exact lf_opt _
  · split
    · split
      · rename_i hk
        split
        · split
          · trivial
          · exact lf_tw lf_killo (hw.resolve_left (by rw [hk]; simp))
        · trivial
      · exact lf_opt _
    · trivial
  · split
    · split
      · exact lf_opt _
      · trivial
    · trivial
  · trivial

theorem lf_store {ti : TI} {bxg : Nat → Option (List V)} {hp : Heap} {a v : V} (hw : w = true) : (outStore ti take bxg hp a v).leaf (Lf take dst w) := by
  unfold outStore
  split
  · split
    · trivial
    · split
      · exact lf_tw lf_kills hw
      · trivial
  · split
    · split
      · exact lf_tw lf_kills hw
      · trivial
    · trivial
  · split
    · split
      · split
        · exact lf_tw lf_kills hw
        · trivial
      · trivial
    · trivial
  · trivial

theorem lf_sub {sh : Sh} {bxg : Nat → Option (List V)} {hp : Heap} {x : V} {lo hi : Option Int} : (outSub sh dst take bxg hp x lo hi).leaf (Lf take dst w) := by
  unfold outSub
  split
  · exact lf_val _
  · dsimp only; split
    · exact lf_val _
    · trivial
  · dsimp only; split
    · exact lf_val _
    · trivial
  · dsimp only; split
    · exact lf_val _
    · trivial
  · dsimp only; split
    · split
      · exact lf_val _
      · trivial
    · trivial
  · dsimp only; split
    · split
      · exact lf_val _
      · trivial
    · trivial
  · dsimp only; split
    · split
      · exact lf_val _
      · trivial
    · trivial
  · trivial

theorem lf_sub3 {sh : Sh} {x : V} {lo hi mx : Option Int} : (outSub3 sh dst take x lo hi mx).leaf (Lf take dst w) := by
  unfold outSub3
  split
  · exact lf_val _
  · exact lf_val _
  · trivial

theorem lf_eq {E : Env} {neg : Bool} {xt : Nat} {x y : V} {yc : Bool} : (eqOut E dst neg xt x y yc).leaf (Lf [] dst w) := by
  unfold eqOut
  split
  · split
    · exact lf_val _
    · trivial
  · split
    · exact lf_val _
    · trivial
  · split
    · exact lf_val _
    · trivial
  · split
    · split
      · split
        · exact lf_val _
        · split
          · exact lf_val _
          · exact fun b => lf_val _
      · trivial
    · split
      · exact lf_val _
      · trivial
    · trivial
  · split
    · split
      · trivial
      · split
        · exact lf_opt _
        · trivial
    · trivial
  · split
    · split
      · trivial
      · split
        · exact lf_opt _
        · trivial
    · trivial
  · trivial

theorem lf_bin {E : Env} {op : BinOp} {xt : Nat} {x y : V} {yc : Bool} : (binOut E dst op xt x y yc).leaf (Lf [] dst w) := by
  unfold binOut
  split
  · split
    · exact lf_val _
    · exact lf_val _
    · split
      · exact lf_val _
      · trivial
    · split
      · exact lf_val _
      · trivial
    · split
      · exact lf_opt _
      · trivial
  · split
    · exact lf_val _
    · exact lf_opt _
  · split
    · exact lf_eq
    · exact lf_eq
    · trivial

theorem lf_app {E : Env} {mode t0 : Nat} {ats : List Nat} {vs : List V} {hp : Heap} (hw : w = true) : (appOut E dst take mode t0 ats vs hp).leaf (Lf take dst w) := by
  unfold appOut
  split
  · rename_i d _ _ _ _ _ _
    split
    · split
      · trivial
      · split
        · split
          · split
            · split
              · exact lf_tw (lf_kill rfl) hw
              · trivial
            · split
              · split
                · exact lf_val _
                · exact lf_val _
              · split
                · exact lf_val _
                · trivial
          · trivial
        · split
          · split
            · split
              · exact lf_tw (lf_kill rfl) hw
              · split
                · exact lf_tw (lf_kill rfl) hw
                · trivial
            · trivial
          · trivial
        · trivial
    · trivial
  · trivial
end
end Go.Hx

/-
  Hx: what an operation's update touches: all operations.
-/
namespace Go.Hx
open Go

/-- may it write memory? -/
def memW (oa : OA) (o : Oper) : Bool :=
  match o.op with
  | .alloc _ | .box .. | .store .. | .makeMap .. | .makeSlice .. | .mapUpdate .. | .mapEntry .. | .entryStore .. | .range .. => true
  | .buildSlice .. => oa.mode != 0
  | .load .. => oa.mode == 1
  | .call { callee := .builtin b, .. } => match b with | .len | .max | .min => false | _ => true
  | .call _ => true
  | _ => false

section
variable [Glob] {E : Env} {oa : OA} {o : Oper} {tm : List V} {bxg : Nat → Option (List V)} {hp : Heap}

theorem stepOut_leaf : (stepOut E oa o tm bxg hp).leaf (Lf oa.take o.dst (memW oa o)) := by
  obtain ⟨dst, op, type, pos, after, guard⟩ := o
  cases op <;> unfold stepOut <;> dsimp only [memW] <;> try (exact trivial)
  case move x => exact lf_live _
  case assign x => exact lf_live _
  case pick c a b =>
    split
    · exact lf_live _
    · exact lf_live _
    · exact ⟨lf_live _, lf_live _⟩
    · trivial
  case alloc t =>
    split
    · exact lf_alloc rfl
    · trivial
  case box t x => exact lf_alloc rfl
  case build t ps =>
    split
    · exact lf_opt _
    · exact lf_opt _
    · trivial
  case buildSlice t n ps =>
    split
    · split
      · split
        · refine lf_slice ?_
          by_cases hm : oa.mode = 0
          · exact .inl hm
          · exact .inr (by simp [hm])
        · trivial
      · trivial
    · trivial
  case load t x =>
    split
    · refine lf_load ?_
      cases hm : (oa.mode == 1) <;> simp
    · trivial
  case store t x y =>
    split
    · trivial
    · split
      · exact lf_store rfl
      · trivial
  case nilCheck x =>
    split
    · exact lf_val _
    · trivial
  case binOp op t x y yt =>
    split
    · rename_i hk
      have : oa.take = [] := by simpa using hk
      rw [this]
      exact lf_bin
    · trivial
  case unOp op t x =>
    split
    · exact lf_val _
    · exact lf_val _
    · exact lf_val _
    · exact lf_val _
    · trivial
  case convert s d x =>
    split
    · exact lf_val _
    · exact lf_val _
    · split
      · split
        · exact lf_opt _
        · trivial
      · trivial
    · split
      · split
        · exact lf_opt _
        · trivial
      · trivial
    · split
      · split
        · exact lf_opt _
        · trivial
      · trivial
    · trivial
  case makeFunc f a b =>
    cases f
    · dsimp only
      split
      · exact lf_val _
      · trivial
    all_goals trivial
  case makeMap t r =>
    cases r
    · dsimp only
      cases dst with
      | none => trivial
      | some d => exact lf_tw (lf_kill rfl) rfl
    · trivial
  case makeSlice t x y =>
    split
    · split
      · split
        · exact lf_val _
        · exact lf_tw (lf_kill rfl) rfl
        · exact lf_slice (.inr rfl)
      · trivial
    · trivial
  case slice t x l hi m =>
    cases m with
    | none =>
      dsimp only
      split
      · exact lf_sub
      · trivial
    | some y =>
      dsimp only
      split
      · exact lf_sub3
      · trivial
  case fieldAddr t x f =>
    split
    · split
      · split
        · trivial
        · exact lf_opt _
      · trivial
    · trivial
  case field t x f =>
    split
    · split
      · split
        · exact lf_opt _
        · trivial
      · trivial
    · trivial
  case indexAddr t x i =>
    split
    · split
      · exact fun e => lf_val _
      · trivial
    · split
      · split
        · exact lf_val _
        · trivial
      · trivial
    · split
      · exact lf_val _
      · trivial
    · split
      · exact lf_val _
      · trivial
    · exact lf_opt _
    · trivial
  case index t x i =>
    split
    · exact fun e => lf_val _
    · split
      · trivial
      · exact fun e => lf_live _
    · trivial
  case lookup t m k ok =>
    split
    · split
      · split
        · unfold outLookup
          split
          · exact ⟨fun v => lf_val _, lf_val _⟩
          · trivial
        · trivial
      · trivial
    · trivial
  case mapUpdate t m k v =>
    split
    · trivial
    · split
      · split
        · split
          · exact lf_tw lf_kills rfl
          · trivial
        · trivial
      · trivial
  case mapEntry t m k =>
    split
    · split
      · split
        · split
          · exact ⟨fun v => lf_tw (lf_kill rfl) rfl, trivial⟩
          · exact lf_tw (lf_kill rfl) rfl
        · trivial
      · trivial
    · trivial
  case entryStore t m s v =>
    split
    · trivial
    · split
      · split
        · split
          · split
            · exact lf_tw lf_kills rfl
            · trivial
          · trivial
        · trivial
      · trivial
  case extract x i =>
    split
    · split
      · exact lf_live _
      · trivial
    · split
      · exact lf_live _
      · exact lf_val _
      · trivial
    · trivial
  case range t x =>
    split
    · split
      · exact lf_tw (lf_kill rfl) rfl
      · trivial
    · trivial
  case next x b =>
    cases b
    · dsimp only
      split
      · split
        · split
          · exact lf_val _
          · trivial
        · trivial
      · trivial
    · trivial
  case call c =>
    obtain ⟨cal, args, ats⟩ := c
    cases cal
    case builtin b =>
      dsimp only
      cases ats[0]? with
      | none => trivial
      | some t0 =>
        dsimp only
        unfold builtinOut
        cases b <;> dsimp only <;> try (exact trivial)
        case len => split <;> first | exact lf_val _ | trivial | (split <;> first | exact lf_val _ | trivial)
        case append => exact lf_app rfl
        case max => exact lf_opt _
        case min => exact lf_opt _
        case delete =>
          split
          · split
            · split
              · exact lf_tw lf_killo rfl
              · trivial
            · trivial
          · trivial
        case clear =>
          split
          · exact lf_tw lf_killo rfl
          · split
            · split
              · exact lf_tw lf_killo rfl
              · trivial
            · trivial
          · trivial
    all_goals trivial

variable {P : Program} {call : Nat → List V → Heap → Option (V × Heap)} {ops : Array Oper}

theorem effU_leaf {i : Nat} {S : St} {u : Upd} (ho : ops[i]? = some o) (h : effU P E call ops i oa S = some u) : Lf oa.take o.dst (memW oa o) u := by
  unfold effU at h
  rw [ho] at h
  dsimp only at h
  split at h
  · cases h
  · unfold opU at h
    split at h
    · rename_i x args ats hop
      split at h
      · dsimp only at h
        split at h
        · obtain ⟨r, hr, rfl⟩ := Option.map_eq_some_iff.1 h
          refine ⟨lf_killo, fun hw => ?_⟩
          simp [memW, hop] at hw
        · cases h
      · cases h
    · exact Out.leaf_run _ u stepOut_leaf h
  · cases h
    refine ⟨fun t ht => ?_, fun _ => ⟨rfl, rfl⟩⟩
    cases hd : o.dst with
    | none => rw [hd] at ht; simp at ht
    | some d => rw [hd] at ht; simp at ht; exact .inr (by rw [ht])
end
end Go.Hx

/-
  Hx: regions for the kernel: what is looked at ahead of a run, what is looked at behind it.
-/
namespace Go.Hx
open Go

/-- equality of abstract values, by fuel -/
def beqL {α : Type} (f : α → α → Bool) : List α → List α → Bool
  | [], [] => true
  | x :: xs, y :: ys => f x y && beqL f xs ys
  | _, _ => false

theorem beqL_eq {α : Type} {f : α → α → Bool} (hf : ∀ x y, f x y = true → x = y) : ∀ (l l' : List α), beqL f l l' = true → l = l'
  | [], [], _ => rfl
  | [], _ :: _, h => by simp [beqL] at h
  | _ :: _, [], h => by simp [beqL] at h
  | x :: xs, y :: ys, h => by
    simp only [beqL, Bool.and_eq_true] at h
    rw [hf x y h.1, beqL_eq hf xs ys h.2]

def beqVal : Value → Value → Bool
  | .int k a, .int k' b => eqKind k k' && a == b
  | .bool a, .bool b => a == b
  | .string a, .string b => decide (a.data = b.data)
  | .pointer none, .pointer none => true
  | .map none, .map none => true
  | _, _ => false

theorem beqVal_eq {x y : Value} (h : beqVal x y = true) : x = y := by
  unfold beqVal at h
  split at h
  · simp only [Bool.and_eq_true, beq_iff_eq, eqKind, decide_eq_true_eq] at h; rw [h.1, h.2]
  · simp only [beq_iff_eq] at h; rw [h]
  · rename_i a b
    have := of_decide_eq_true h
    obtain ⟨a⟩ := a; obtain ⟨b⟩ := b
    dsimp only at this; rw [this]
  · rfl
  · rfl
  · cases h

def beqV : Nat → V → V → Bool
  | 0, _, _ => false
  | n + 1, a, b =>
    match a, b with
    | .raw x, .raw y => beqVal x y
    | .tt, .tt => true
    | .ff, .ff => true
    | .dead, .dead => true
    | .ptr b o, .ptr b' o' => Nat.beq b b' && Nat.beq o o'
    | .lptr b o, .lptr b' o' => Nat.beq b b' && Nat.beq o o'
    | .map m, .map m' => Nat.beq m m'
    | .eit m, .eit m' => Nat.beq m m'
    | .gptr g v j, .gptr g' v' j' => Nat.beq g g' && Nat.beq v v' && Nat.beq j j'
    | .gs g v o n, .gs g' v' o' n' => Nat.beq g g' && Nat.beq v v' && Nat.beq o o' && Nat.beq n n'
    | .agg l, .agg l' => beqL (beqV n) l l'
    | .tup l, .tup l' => beqL (beqV n) l l'
    | .eref l o, .eref l' o' => Nat.beq o o' && beqL (beqV n) l l'
    | .sl k l r, .sl k' l' r' => Nat.beq k k' && Nat.beq r r' && beqL (beqL (beqV n)) l l'
    | .clo f l m, .clo f' l' m' => Nat.beq f f' && beqL (beqV n) l l' && beqL (beqV n) m m'
    | _, _ => false

theorem beqV_eq : ∀ (n : Nat) (a b : V), beqV n a b = true → a = b
  | 0, _, _, h => by simp [beqV] at h
  | n + 1, a, b, h => by
    have ih := beqV_eq n
    unfold beqV at h
    split at h <;> try simp only [Bool.and_eq_true] at h
    · rw [beqVal_eq h]
    · rfl
    · rfl
    · rfl
    · rw [Nat.eq_of_beq_eq_true h.1, Nat.eq_of_beq_eq_true h.2]
    · rw [Nat.eq_of_beq_eq_true h.1, Nat.eq_of_beq_eq_true h.2]
    · rw [Nat.eq_of_beq_eq_true h]
    · rw [Nat.eq_of_beq_eq_true h]
    · rw [Nat.eq_of_beq_eq_true h.1.1, Nat.eq_of_beq_eq_true h.1.2, Nat.eq_of_beq_eq_true h.2]
    · rw [Nat.eq_of_beq_eq_true h.1.1.1, Nat.eq_of_beq_eq_true h.1.1.2, Nat.eq_of_beq_eq_true h.1.2, Nat.eq_of_beq_eq_true h.2]
    · rw [beqL_eq ih _ _ h]
    · rw [beqL_eq ih _ _ h]
    · rw [Nat.eq_of_beq_eq_true h.1, beqL_eq ih _ _ h.2]
    · rw [Nat.eq_of_beq_eq_true h.1.1, Nat.eq_of_beq_eq_true h.1.2, beqL_eq (beqL_eq ih) _ _ h.2]
    · rw [Nat.eq_of_beq_eq_true h.1.1, beqL_eq ih _ _ h.1.2, beqL_eq ih _ _ h.2]
    · cases h

def sameB2 : Option (Nat × List V) → Option (Nat × List V) → Bool
  | none, none => true
  | some (s, c), some (s', c') => Nat.beq s s' && beqL (beqV 20) c c'
  | _, _ => false

theorem sameB2_eq {a b : Option (Nat × List V)} (h : sameB2 a b = true) : a = b := by
  unfold sameB2 at h
  split at h
  · rfl
  · simp only [Bool.and_eq_true] at h
    rw [Nat.eq_of_beq_eq_true h.1, beqL_eq (beqV_eq 20) _ _ h.2]
  · cases h

def sameU : Option Upd → Upd → Bool
  | some u, v => beqL (fun p q => Nat.beq p.1 q.1 && beqV 20 p.2 q.2) u.tw v.tw && sameB2 u.bw v.bw && u.hw.isNone && v.hw.isNone
  | none, _ => false

theorem sameU_eq {a : Option Upd} {v : Upd} (h : sameU a v = true) : a = some v := by
  cases a with
  | none => cases h
  | some u =>
    obtain ⟨tw, bw, hw⟩ := u
    obtain ⟨tw', bw', hw'⟩ := v
    simp only [sameU, Bool.and_eq_true, Option.isNone_iff_eq_none] at h
    obtain ⟨⟨⟨h1, h2⟩, rfl⟩, rfl⟩ := h
    have := beqL_eq (f := fun (p q : Nat × V) => Nat.beq p.1 q.1 && beqV 20 p.2 q.2) (fun x y hxy => by
      simp only [Bool.and_eq_true] at hxy
      exact Prod.ext (Nat.eq_of_beq_eq_true hxy.1) (beqV_eq 20 _ _ hxy.2)) _ _ h1
    rw [this, sameB2_eq h2]

/-- a region's remarks: of each operation; the pairs to be looked at behind a run; are there stamps to look for? -/
structure RM where
  oas : List OA
  pairs : List (Nat × Nat) := []
  ns : Bool := false

def noStV : V → Bool
  | .stamp .. | .ment .. => false
  | _ => true

def offBox (s : Nat) : V → Bool
  | .lptr s' _ => !(Nat.beq s' s)
  | .lmsl s' .. => !(Nat.beq s' s)
  | _ => true

section
variable [Glob] (P : Program) (E : Env) (call : Nat → List V → Heap → Option (V × Heap)) (ops : Array Oper)

/-- does it read a frame's box alone? -/
def heapFree (oa : OA) (o : Oper) (tm : List V) : Bool :=
  match o.op with
  | .load _ x => match evO tm oa.take 0 x with | .lptr .. => true | _ => false
  | _ => false

def effO (o : Oper) (oa : OA) (S : St) : Option Upd :=
  match wantedV ops o S with
  | none => none
  | some true => opU P E call oa o S
  | some false => some { tw := match o.dst with | some d => [(d, .tup [])] | none => [] }

def rOps : List Oper → List OA → St → Option St
  | o :: r, oa :: s, S =>
    match effO P E call ops o oa S with
    | none => none
    | some u => applyK S u fun S => rOps r s S
  | [], [], S => some S
  | _, _, _ => none

def rTr : List Oper → List OA → St → Option (St × List (St × Upd))
  | o :: r, oa :: s, S =>
    match effO P E call ops o oa S with
    | none => none
    | some u => applyK S u fun S' =>
      match rTr r s S' with
      | none => none
      | some (S2, tr) => some (S2, (S, u) :: tr)
  | [], [], S => some (S, [])
  | _, _, _ => none

def chkPair (oas : List OA) (tr : List (St × Upd)) (x y : Nat) : Bool :=
  match tr[x]?, tr[y]?, ops[y]?, oas[y]? with
  | some (Sx, ux), some (Sy, uy), some o, some oa =>
    (match ux.bw with
     | none => true
     | some (s, _) => (match uy.bw with | some (s', _) => !(Nat.beq s s') | none => true) &&
        (pureOp E oa o || ((match o.dst with | some d => !(Nat.beq d s) | none => true) && o.op.operands.toList.all fun z => match z with | .tmp t => offBox s (getT Sy.tm t) | _ => true))) &&
    (match ux.hw with
     | none => true
     | some h => uy.hw.isNone && (heapFree oa o Sy.tm || (sameU (effO P E call ops o oa { Sy with hp := Sx.hp }) uy && sameU (effO P E call ops o oa { Sy with hp := h }) uy)))
  | _, _, _, _ => false

def rReg (d : Bool) (rm : RM) (S : St) : Option St :=
  match d with
  | false => rOps P E call ops ops.toList rm.oas S
  | true =>
    match rm.pairs, rm.ns with
    | [], false => rOps P E call ops ops.toList rm.oas S
    | ps, ns => match rTr P E call ops ops.toList rm.oas S with
      | none => none
      | some (S', tr) => bif ps.all (fun p => chkPair P E call ops rm.oas tr p.1 p.2) && (!ns || (S.tm.all noStV && tr.all fun q => q.2.tw.all fun p => noStV p.2)) then some S' else none

variable {P E call ops}

theorem effU_effO {i : Nat} {o : Oper} (ho : ops[i]? = some o) (oa : OA) (S : St) : effU P E call ops i oa S = effO P E call ops o oa S := by
  unfold effU effO
  simp only [ho]
  all_goals (cases wantedV ops o S <;> first | rfl | (rename_i b; cases b <;> rfl))

theorem rTr_spec : ∀ (r : List Oper) (s : List OA) (S S' : St) (tr : List (St × Upd)), rTr P E call ops r s S = some (S', tr) →
    tr.length = r.length ∧ s.length = r.length ∧ (tr.map (·.2)).foldl St.apply S = S' ∧
    ∀ (k : Nat) (o : Oper) (oa : OA), r[k]? = some o → s[k]? = some oa → ∃ u, tr[k]? = some (((tr.map (·.2)).take k).foldl St.apply S, u) ∧ effO P E call ops o oa (((tr.map (·.2)).take k).foldl St.apply S) = some u
  | [], [], S, S', tr, h => by
    simp only [rTr, Option.some.injEq, Prod.mk.injEq] at h
    obtain ⟨rfl, rfl⟩ := h
    exact ⟨rfl, rfl, rfl, fun k o oa hk => by simp at hk⟩
  | [], _ :: _, S, S', tr, h => by simp [rTr] at h
  | _ :: _, [], S, S', tr, h => by simp [rTr] at h
  | o :: r, oa :: s, S, S', tr, h => by
    simp only [rTr] at h
    split at h
    · cases h
    · rename_i u hu
      rw [applyK_eq] at h
      split at h
      · cases h
      · rename_i S2 tr' hr
        simp only [Option.some.injEq, Prod.mk.injEq] at h
        obtain ⟨rfl, rfl⟩ := h
        obtain ⟨h1, h2, h3, h4⟩ := rTr_spec r s _ _ _ hr
        refine ⟨by simp [h1], by simp [h2], by simpa using h3, fun k o' oa' hk hk' => ?_⟩
        cases k with
        | zero =>
          simp at hk hk'
          subst hk; subst hk'
          exact ⟨u, by simp, by simpa using hu⟩
        | succ k =>
          obtain ⟨v, hv, he⟩ := h4 k o' oa' (by simpa using hk) (by simpa using hk')
          exact ⟨v, by simpa using hv, by simpa using he⟩

theorem rOps_rTr : ∀ (r : List Oper) (s : List OA) (S S' : St), rOps P E call ops r s S = some S' → ∃ tr, rTr P E call ops r s S = some (S', tr)
  | [], [], S, S', h => by
    simp only [rOps, Option.some.injEq] at h
    exact ⟨[], by simp only [rTr, h]⟩
  | [], _ :: _, S, S', h => by simp [rOps] at h
  | _ :: _, [], S, S', h => by simp [rOps] at h
  | o :: r, oa :: s, S, S', h => by
    simp only [rOps] at h
    split at h
    · cases h
    · rename_i u hu
      rw [applyK_eq] at h
      obtain ⟨tr, htr⟩ := rOps_rTr r s _ _ h
      exact ⟨(S, u) :: tr, by simp only [rTr, hu, applyK_eq, htr]⟩

/-- the operations with their numbers -/
def idx : Nat → List OA → List (Nat × OA)
  | _, [] => []
  | i, oa :: s => (i, oa) :: idx (i + 1) s

omit [Glob] in
theorem idx_get : ∀ (s : List OA) (i k : Nat), (idx i s)[k]? = (s[k]?).map fun oa => (i + k, oa)
  | [], i, k => by simp [idx]
  | oa :: s, i, 0 => by simp [idx]
  | oa :: s, i, k + 1 => by
    simp only [idx, List.getElem?_cons_succ]
    rw [idx_get s (i + 1) k]
    congr 1; funext x; congr 1; omega

omit [Glob] in
theorem idx_fst : ∀ (s : List OA) (i : Nat), (idx i s).map (·.1) = List.range' i s.length
  | [], i => rfl
  | oa :: s, i => by simp only [idx, List.map_cons, idx_fst s (i + 1), List.length_cons, List.range'_succ]

theorem rOps_opsRun : ∀ (r : List Oper) (s : List OA) (i : Nat) (S S' : St), (∀ k, k < r.length → ops[i + k]? = r[k]?) → rOps P E call ops r s S = some S' → opsRun P E call ops (idx i s) S = some S'
  | [], [], i, S, S', _, h => by simpa [rOps, idx, opsRun] using h
  | [], _ :: _, i, S, S', _, h => by simp [rOps] at h
  | _ :: _, [], i, S, S', _, h => by simp [rOps] at h
  | o :: r, oa :: s, i, S, S', hr, h => by
    simp only [rOps] at h
    have ho : ops[i]? = some o := by simpa using hr 0 (by simp)
    split at h
    · cases h
    · rename_i u hu
      rw [applyK_eq] at h
      have ih := rOps_opsRun r s (i + 1) _ _ (fun k hk => by
        have := hr (k + 1) (by simpa using hk)
        rw [show i + (k + 1) = i + 1 + k by omega] at this
        simpa using this) h
      simp only [idx, opsRun, ho]
      unfold effO at hu
      cases hw : wantedV ops o S with
      | none => rw [hw] at hu; cases hu
      | some b =>
        rw [hw] at hu
        cases b with
        | true =>
          dsimp only at hu ⊢
          rw [opRun_eq, hu]
          exact ih
        | false =>
          simp only [Option.some.injEq] at hu
          subst hu
          dsimp only
          cases hd : o.dst with
          | none => rw [hd] at ih; exact ih
          | some d => rw [hd] at ih; exact ih
end
end Go.Hx

/-
  Hx: the look ahead of a run at a region; its soundness.
-/
namespace Go.Hx
open Go

def uOf (anc : List Nat) : List Edge → Nat
  | [] => 0
  | e :: r => (bif Region.binds .any e then 2 ^ e.on ||| anc.getD e.on 0 else 0) ||| uOf anc r

def ancOf (ops : Array Oper) (anc : List Nat) (i : Nat) : Bool :=
  match ops[i]? with
  | some o => o.after.toList.all (fun e => !Region.binds .any e || Nat.blt e.on i) && Nat.beq (anc.getD i 0 ||| uOf anc o.after.toList) (uOf anc o.after.toList)
  | none => false

def disj (l m : List Nat) : Bool := l.all fun t => !m.contains t

section
variable [Glob] (E : Env)

def statPair (ops : Array Oper) (rm : RM) (j i : Nat) : Bool :=
  match ops[j]?, rm.oas[j]?, ops[i]?, rm.oas[i]? with
  | some p, some pa, some o, some oa => disj (pa.take ++ p.dst.toList) (o.looksAt ops) && disj (pa.take ++ p.dst.toList) (oa.take ++ o.dst.toList) && (!memW pa p || pureOp E oa o || rm.pairs.contains (j, i))
  | _, _, _, _ => false

/-- the look at a region that draws -/
def statOK (ops : Array Oper) (rm : RM) (anc : List Nat) : Bool :=
  Nat.beq rm.oas.length ops.size && (List.range ops.size).all (fun i => ancOf ops anc i && (List.range ops.size).all fun j => Nat.beq j i || (anc.getD i 0).testBit j || (anc.getD j 0).testBit i || statPair E ops rm j i) &&
  (rm.ns || ops.toList.all fun o => !nsRead o)

variable {E} {P : Program} {call : Nat → List V → Heap → Option (V × Heap)} {ops : Array Oper} {rm : RM} {anc : List Nat}

omit [Glob] in
theorem uOf_bit {j : Nat} : ∀ (l : List Edge), (uOf anc l).testBit j = true → ∃ e ∈ l, Region.binds .any e = true ∧ (e.on = j ∨ (anc.getD e.on 0).testBit j = true)
  | [], h => by simp [uOf] at h
  | e :: r, h => by
    simp only [uOf, Nat.testBit_or, Bool.or_eq_true] at h
    rcases h with h | h
    · cases hb : Region.binds .any e
      · rw [hb] at h; simp at h
      · rw [hb] at h
        simp only [cond_true, Nat.testBit_or, Bool.or_eq_true, Nat.testBit_two_pow, decide_eq_true_eq] at h
        exact ⟨e, by simp, hb, h⟩
    · obtain ⟨e', he, hh⟩ := uOf_bit r h
      exact ⟨e', by simp [he], hh⟩

omit [Glob] in
theorem disj_spec {l m : List Nat} (h : disj l m = true) {t : Nat} (ht : t ∈ l) : t ∉ m := by
  unfold disj at h
  have := List.all_eq_true.1 h t ht
  simpa using this

theorem getT_look {o : Oper} {oa : OA} {tm : List V} {s : Nat} (h : (o.op.operands.toList.all fun z => match z with | .tmp t => offBox s (getT tm t) | _ => true) = true) :
    ∀ x ∈ o.op.operands.toList, ∀ k, (∀ q, evO tm oa.take k x ≠ .lptr s q) ∧ ∀ q k' n c, evO tm oa.take k x ≠ .lmsl s q k' n c := by
  intro x hx k
  have hz := List.all_eq_true.1 h x hx
  cases x with
  | tmp t =>
    simp only at hz
    simp only [evO]
    have hs : ∀ v : V, offBox s v = true → (∀ q, v ≠ .lptr s q) ∧ ∀ q k' n c, v ≠ .lmsl s q k' n c := fun v hv => by
      constructor
      · intro q e; subst e; simp [offBox] at hv
      · intro q k' n c e; subst e; simp [offBox] at hv
    have h2 : offBox s (getT tm t).strip = true := by
      cases hg : getT tm t <;> rw [hg] at hz <;> first | exact hz | rfl
    split
    · exact hs _ hz
    · exact hs _ h2
  | const v =>
    constructor
    · intro q e; simp only [evO] at e; unfold lift at e; split at e <;> cases e
    · intro q k' n c e; simp only [evO] at e; unfold lift at e; split at e <;> cases e
  | global g => exact ⟨fun q e => (by cases e), fun q k' n c e => (by cases e)⟩
  | func f => exact ⟨fun q e => (by cases e), fun q k' n c e => (by cases e)⟩

theorem effO_pure {o : Oper} {oa : OA} (hp : pureOp E oa o = true) (S : St) (h : Heap) : effO P E call ops o oa { S with hp := h } = effO P E call ops o oa S := by
  unfold effO
  have hw : wantedV ops o { S with hp := h } = wantedV ops o S := rfl
  rw [hw]
  have : opU P E call oa o { S with hp := h } = opU P E call oa o S := by
    unfold opU
    split
    · rename_i x args ats hop
      simp [pureOp, hop] at hp
    · exact congrArg Out.run (stepOut_pure hp)
  rw [this]

theorem effO_free {o : Oper} {oa : OA} {S : St} (hp : heapFree oa o S.tm = true) (h : Heap) : effO P E call ops o oa { S with hp := h } = effO P E call ops o oa S := by
  unfold heapFree at hp
  split at hp
  · rename_i t x hop
    split at hp
    · rename_i s q hx
      have hw : wantedV ops o { S with hp := h } = wantedV ops o S := rfl
      have : opU P E call oa o { S with hp := h } = opU P E call oa o S := by
        unfold opU stepOut
        rw [hop]
        dsimp only
        rw [hx]
        rfl
      unfold effO
      rw [hw, this]
    · cases hp
  · cases hp

omit [Glob] in
theorem pureW {oa : OA} {o : Oper} (h : pureOp E oa o = true) : memW oa o = false := by
  obtain ⟨dst, op, type, pos, after, guard⟩ := o
  cases op <;> first | rfl | (simp [pureOp] at h; done) | skip
  case buildSlice t n ps =>
    have hm : oa.mode = 0 := by simpa [pureOp] using h
    simp [memW, hm]
  case call c =>
    obtain ⟨cal, args, ats⟩ := c
    cases cal
    case builtin b => cases b <;> first | rfl | (simp [pureOp] at h; done)
    all_goals simp [pureOp] at h

theorem chkPair_spec {oas : List OA} {tr : List (St × Upd)} {x y : Nat} {Sx Sy : St} {ux uy : Upd} {o : Oper} {oa : OA} (hux : tr[x]? = some (Sx, ux)) (huy : tr[y]? = some (Sy, uy)) (ho : ops[y]? = some o) (hoa : oas[y]? = some oa)
    (h : chkPair P E call ops oas tr x y = true) : (match ux.bw with
     | none => true
     | some (s, _) => (match uy.bw with | some (s', _) => !(Nat.beq s s') | none => true) &&
        (pureOp E oa o || ((match o.dst with | some d => !(Nat.beq d s) | none => true) && o.op.operands.toList.all fun z => match z with | .tmp t => offBox s (getT Sy.tm t) | _ => true))) = true ∧
      (match ux.hw with
     | none => true
     | some h => uy.hw.isNone && (heapFree oa o Sy.tm || (sameU (effO P E call ops o oa { Sy with hp := Sx.hp }) uy && sameU (effO P E call ops o oa { Sy with hp := h }) uy))) = true := by
  unfold chkPair at h
  rw [hux, huy, ho, hoa] at h
  exact Bool.and_eq_true_iff.1 h

/-- of a run in the order of the text: all that is asked of a region that draws -/
theorem drawn_of {S0 S' : St} {tr : List (St × Upd)} (hst : statOK E ops rm anc = true) (hrun : rTr P E call ops ops.toList rm.oas S0 = some (S', tr))
    (hps : ∀ p ∈ rm.pairs, chkPair P E call ops rm.oas tr p.1 p.2 = true) (hns : rm.ns = true → S0.tm.all noStV = true ∧ (tr.all fun q => q.2.tw.all fun p => noStV p.2) = true) :
    Drawn P E call ops (idx 0 rm.oas) (tr.map (·.2)) S0 (fun i j => (anc.getD i 0).testBit j = true ∧ i < ops.size) ∧ (tr.map (·.2)).foldl St.apply S0 = S' := by
  obtain ⟨h1, h2, h3, h4⟩ := rTr_spec _ _ _ _ _ hrun
  simp only [statOK, Bool.and_eq_true] at hst
  obtain ⟨⟨hlen, hall⟩, hnsr⟩ := hst
  have hlen := Nat.eq_of_beq_eq_true hlen
  have hat : ∀ i, i < ops.size → ancOf ops anc i = true ∧ ∀ j, j < ops.size → j ≠ i → ¬ (anc.getD i 0).testBit j = true → ¬ (anc.getD j 0).testBit i = true → statPair E ops rm j i = true := fun i hi => by
    have := List.all_eq_true.1 hall i (List.mem_range.2 hi)
    simp only [Bool.and_eq_true] at this
    refine ⟨this.1, fun j hj hne hn1 hn2 => ?_⟩
    have := List.all_eq_true.1 this.2 j (List.mem_range.2 hj)
    simp only [Bool.or_eq_true] at this
    rcases this with ((e | e) | e) | e
    · exact absurd (Nat.eq_of_beq_eq_true e) hne
    · exact absurd e hn1
    · exact absurd e hn2
    · exact e
  have hrec : ∀ k, k < ops.size → ∃ o oa u, ops[k]? = some o ∧ rm.oas[k]? = some oa ∧ tr[k]? = some (stAt (tr.map (·.2)) S0 k, u) ∧ effO P E call ops o oa (stAt (tr.map (·.2)) S0 k) = some u := fun k hk => by
    have ho : ops[k]? = some ops[k] := by simp [hk]
    have hoa : rm.oas[k]? = some (rm.oas[k]'(by omega)) := by
      rw [List.getElem?_eq_getElem]
    obtain ⟨u, hu, he⟩ := h4 k ops[k] _ (by simp [hk]) hoa
    have e1 : stAt (tr.map (·.2)) S0 k = ((tr.map (·.2)).take k).foldl St.apply S0 := by
      have := stX_take (tr.map (·.2)) k 0 S0
      rw [Nat.zero_add] at this
      exact this
    rw [e1]
    exact ⟨_, _, u, ho, hoa, hu, he⟩
  have hus : ∀ {x u}, (tr.map (·.2))[x]? = some u → x < ops.size ∧ tr[x]? = some (stAt (tr.map (·.2)) S0 x, u) := fun {x u} hx => by
    have hlt : x < ops.size := by
      rcases Nat.lt_or_ge x (tr.map (·.2)).length with h' | h'
      · simpa [h1] using h'
      · rw [List.getElem?_eq_none h'] at hx; cases hx
    refine ⟨hlt, ?_⟩
    obtain ⟨o, oa, v, -, -, hv, -⟩ := hrec x hlt
    rw [List.getElem?_map, hv] at hx
    simp at hx; subst hx; exact hv
  refine ⟨⟨by simpa using h1, fun i hi => ?_, fun i oa hl => ?_, fun i o e hi he hb => ?_, fun i j ⟨hij, hin⟩ => ?_, fun x y hx hy hne hxy hyx => ?_, fun ⟨i, o, hi, hn⟩ => ?_⟩, h3⟩
  · obtain ⟨o, oa, u, -, hoa, -⟩ := hrec i hi
    exact ⟨oa, by rw [idx_get, hoa]; simp⟩
  · rw [idx_get] at hl
    obtain ⟨oa', hoa', e⟩ := Option.map_eq_some_iff.1 hl
    simp at e; subst e
    have hi : i < ops.size := by
      rcases Nat.lt_or_ge i rm.oas.length with h' | h'
      · omega
      · rw [List.getElem?_eq_none h'] at hoa'; cases hoa'
    obtain ⟨o, oa, u, ho, hoa, hu, he⟩ := hrec i hi
    rw [hoa'] at hoa; cases hoa
    exact ⟨u, by rw [List.getElem?_map, hu]; rfl, by rw [effU_effO ho]; exact he⟩
  · have hlt : i < ops.size := (Array.getElem?_eq_some_iff.1 hi).1
    have := (hat i hlt).1
    unfold ancOf at this
    rw [hi] at this
    simp only [Bool.and_eq_true] at this
    have := List.all_eq_true.1 this.1 e (by simpa using he)
    rw [hb] at this
    simpa [Nat.blt_eq] using this
  · have := (hat i hin).1
    unfold ancOf at this
    cases ho : ops[i]? with
    | none => rw [ho] at this; cases this
    | some o =>
      rw [ho] at this
      simp only [Bool.and_eq_true] at this
      have hbit : (uOf anc o.after.toList).testBit j = true := by
        rw [← Nat.eq_of_beq_eq_true this.2, Nat.testBit_or, hij]; rfl
      obtain ⟨e, he, hb, hc⟩ := uOf_bit _ hbit
      have hback : e.on < i := by
        have := List.all_eq_true.1 this.1 e he
        rw [hb] at this
        simpa [Nat.blt_eq] using this
      have hlt : j < i := by
        rcases hc with hc | hc
        · omega
        · -- by induction on the ancestors
          have key : ∀ i, i < ops.size → ∀ j, (anc.getD i 0).testBit j = true → j < i := by
            intro i
            induction i using Nat.strongRecOn with
            | _ i ih =>
              intro hi j hj
              have := (hat i hi).1
              unfold ancOf at this
              cases ho : ops[i]? with
              | none => rw [ho] at this; cases this
              | some o =>
                rw [ho] at this
                simp only [Bool.and_eq_true] at this
                have hbit : (uOf anc o.after.toList).testBit j = true := by
                  rw [← Nat.eq_of_beq_eq_true this.2, Nat.testBit_or, hj]; rfl
                obtain ⟨e, he, hb, hc⟩ := uOf_bit _ hbit
                have hback : e.on < i := by
                  have := List.all_eq_true.1 this.1 e he
                  rw [hb] at this
                  simpa [Nat.blt_eq] using this
                rcases hc with hc | hc
                · omega
                · have := ih e.on hback (by omega) j hc
                  omega
          have := key e.on (by omega) j hc
          omega
      exact ⟨hlt, o, rfl, e, by simpa using he, hb, hc.imp id fun h => ⟨h, by omega⟩⟩
  · -- two operations that are not ordered
    have hn1 : ¬ (anc.getD x 0).testBit y = true := fun h => hxy ⟨h, hx⟩
    have hn2 : ¬ (anc.getD y 0).testBit x = true := fun h => hyx ⟨h, hy⟩
    have s1 := (hat y hy).2 x hx hne hn2 hn1
    have s2 := (hat x hx).2 y hy (Ne.symm hne) hn1 hn2
    obtain ⟨p, pa, ux, hp, hpa, hux, hex⟩ := hrec x hx
    obtain ⟨o, oa, uy, ho, hoa, huy, hey⟩ := hrec y hy
    unfold statPair at s1 s2
    rw [hp, hpa, ho, hoa] at s1 s2
    simp only [Bool.and_eq_true] at s1 s2
    obtain ⟨⟨d1, d2⟩, m1⟩ := s1
    obtain ⟨⟨d3, d4⟩, m2⟩ := s2
    have lx := effU_leaf (i := x) hp (by rw [effU_effO hp]; exact hex)
    have ly := effU_leaf (i := y) ho (by rw [effU_effO ho]; exact hey)
    have ex : ∀ u, (tr.map (·.2))[x]? = some u → u = ux := fun u hu => by rw [List.getElem?_map, hux] at hu; simp at hu; exact hu.symm
    have ey : ∀ u, (tr.map (·.2))[y]? = some u → u = uy := fun u hu => by rw [List.getElem?_map, huy] at hu; simp at hu; exact hu.symm
    have tgt : ∀ {take : List Nat} {dst : Option Nat} {t : Nat}, (t ∈ take ∨ dst = some t) → t ∈ take ++ dst.toList := fun h => by
      rcases h with h | h
      · exact List.mem_append.2 (.inl h)
      · rw [h]; simp
    -- the pair, looked at behind the run
    have chk : memW pa p = true → pureOp E oa o = true ∨ chkPair P E call ops rm.oas tr x y = true := fun hw => by
      rw [hw] at m1
      simp only [Bool.not_true, Bool.false_or, Bool.or_eq_true] at m1
      rcases m1 with e | e
      · exact .inl e
      · exact .inr (hps (x, y) (by simpa using e))
    have chk' : memW oa o = true → pureOp E pa p = true ∨ chkPair P E call ops rm.oas tr y x = true := fun hw => by
      rw [hw] at m2
      simp only [Bool.not_true, Bool.false_or, Bool.or_eq_true] at m2
      rcases m2 with e | e
      · exact .inl e
      · exact .inr (hps (y, x) (by simpa using e))
    have unf := fun h => chkPair_spec (P := P) (E := E) (call := call) (oas := rm.oas) hux huy ho hoa h
    refine ⟨fun o' u ho' hu t ht hm => ?_, fun u v hu hv => ⟨fun t ht hm => ?_, fun s c s' c' hb hb' => ?_, ?_⟩, fun o' oa' u s c ho' hl hu hb => ?_, fun oa' u v h hl hu hv hh => ?_⟩
    · rw [ho] at ho'; cases ho'
      rw [ex u hu] at hm
      exact disj_spec d1 (tgt (lx.1 t hm)) ht
    · rw [ex u hu] at ht; rw [ey v hv] at hm
      exact disj_spec d2 (tgt (lx.1 t ht)) (tgt (ly.1 t hm))
    · rw [ex u hu] at hb; rw [ey v hv] at hb'
      cases hw : memW pa p with
      | false => rw [(lx.2 hw).1] at hb; cases hb
      | true =>
        rcases chk hw with e | e
        · rw [(ly.2 (pureW e)).1] at hb'; cases hb'
        · have := (unf e).1
          rw [hb] at this
          simp only [hb', Bool.and_eq_true] at this
          intro e2; subst e2; simp at this
    · rw [ex u hu, ey v hv]
      cases hw : memW pa p with
      | false => exact .inl (lx.2 hw).2
      | true =>
        rcases chk hw with e | e
        · exact .inr (ly.2 (pureW e)).2
        · have := (unf e).2
          cases hh : ux.hw with
          | none => exact .inl rfl
          | some h =>
            rw [hh] at this
            simp only [Bool.and_eq_true, Option.isNone_iff_eq_none] at this
            exact .inr this.1
    · rw [ho] at ho'; cases ho'
      rw [idx_get, hoa] at hl
      simp at hl; subst hl
      rw [ex u hu] at hb
      cases hw : memW pa p with
      | false => rw [(lx.2 hw).1] at hb; cases hb
      | true =>
        rcases chk hw with e | e
        · exact .inl e
        · have := (unf e).1
          rw [hb] at this
          simp only [Bool.and_eq_true, Bool.or_eq_true] at this
          rcases this.2 with e2 | e2
          · exact .inl e2
          · refine .inr ⟨fun e3 => ?_, getT_look e2.2⟩
            have := e2.1
            rw [e3] at this
            simp at this
    · rw [idx_get, hoa] at hl
      simp at hl; subst hl
      rw [ex u hu] at hh; rw [ey v hv]
      rw [effU_effO ho, effU_effO ho]
      cases hw : memW pa p with
      | false => rw [(lx.2 hw).2] at hh; cases hh
      | true =>
        rcases chk hw with e | e
        · exact ⟨(effO_pure e _ _).trans hey, (effO_pure e _ _).trans hey⟩
        · have := (unf e).2
          rw [hh] at this
          simp only [Bool.and_eq_true, Bool.or_eq_true] at this
          rcases this.2 with e2 | e2
          · exact ⟨(effO_free e2 _).trans hey, (effO_free e2 _).trans hey⟩
          · exact ⟨sameU_eq e2.1, sameU_eq e2.2⟩
  · have hnst : rm.ns = true := by
      simp only [Bool.or_eq_true] at hnsr
      rcases hnsr with e | e
      · exact e
      · have := List.all_eq_true.1 e o (by simpa using Array.mem_of_getElem? hi)
        rw [hn] at this; cases this
    obtain ⟨k1, k2⟩ := hns hnst
    refine ⟨k1, fun u hu p hp => ?_⟩
    obtain ⟨q, hq, rfl⟩ := List.mem_map.1 hu
    exact List.all_eq_true.1 (List.all_eq_true.1 k2 q hq) p hp
end
end Go.Hx

/-
  Hx: the engine for the kernel, and its soundness.
-/
namespace Go.Hx
open Go

section
variable [Glob] (P : Program) (E : Env)

def eCode (A : Tr RM) (call : Nat → List V → Heap → Option (V × Heap)) : Nat → Code → St → Option (Ex × St)
  | 0, _, _ => none
  | n + 1, c, S =>
    match c with
    | .skip => some (.normal, S)
    | .region id ops d => match A.get id with
      | none => none
      | some rm => match rReg P E call ops d rm S with
        | none => none
        | some S => some (.normal, S)
    | .seq x y =>
      match eCode A call n x S with
      | none => none
      | some (e, S') => match e with
        | .normal => eCode A call n y S'
        | e => some (e, S')
    | .cond x a b =>
      match (evO S.tm [] 0 x).bool? with
      | none => none
      | some t => match t with
        | true => eCode A call n a S
        | false => eCode A call n b S
    | .block id x =>
      match eCode A call n x S with
      | none => none
      | some (e, S') => match e with
        | .exit id' => bif Nat.beq id' id then some (.normal, S') else some (.exit id', S')
        | e => some (e, S')
    | .loop x =>
      match eCode A call n x S with
      | none => none
      | some (e, S') => match e with
        | .normal => eCode A call n (.loop x) S'
        | e => some (e, S')
    | .exit id => some (.exit id, S)
    | .ret => some (.ret, S)
    | _ => none

def eCall (F : Tr (Func × Tr RM)) : Nat → Nat → List V → Heap → Option (V × Heap)
  | 0, _, _, _ => none
  | n + 1, f, vs, hp =>
    match F.get f with
    | none => none
    | some (fn, A) =>
      match fn.body with
      | none => none
      | some c =>
        allK (vs ++ List.replicate (fn.ntmps - vs.length) .dead) fun tm =>
        match eCode P E A (eCall F n) 100000 c { tm, bx := [], hp } with
        | none => none
        | some (e, S) => match e with
          | .exit _ => none
          | _ => match resV E fn S with
            | none => none
            | some v => some (v, S.hp)

/-- the look at a code, ahead of its runs -/
def codeOK (E : Env) (A : Tr RM) : Code → Bool
  | .region id ops true => match A.get id with | some rm => statOK E ops rm (Region.before ops).toList | none => true
  | .seq x y => codeOK E A x && codeOK E A y
  | .cond _ x y => codeOK E A x && codeOK E A y
  | .block _ x => codeOK E A x
  | .loop x => codeOK E A x
  | _ => true

variable {P E} {call : Nat → List V → Heap → Option (V × Heap)}

theorem rReg_wp (hE : EnvM P E) (hm : P.follows .mixedOrders = true) (hcall : ∀ f vs hp v hp', call f vs hp = some (v, hp') → CallOK P f vs hp v hp' ∧ Enters P f) {ops : Array Oper} {rm : RM} {d : Bool} {anc : List Nat}
    (hst : d = true → statOK E ops rm anc = true) {S S' : St} (hr : rReg P E call ops d rm S = some S') {id : Nat} {φ : Phi} {lam : Nat → Nat} {perm : Perm} {a : Act} {w : World} {Q : Exit → Act → World → Prop} (h : FRs φ lam perm S a w.heap)
    (hn : ∀ a' w', Nx φ perm S w S' a' w' → Q .normal a' w') : (Code.region id ops d).wp P Q a w := by
  cases d with
  | false =>
    simp only [rReg] at hr
    have hops := rOps_opsRun (ops := ops) ops.toList rm.oas 0 S S' (fun k hk => by simp) hr
    obtain ⟨tr, htr⟩ := rOps_rTr _ _ _ _ hr
    obtain ⟨-, hlen, -⟩ := rTr_spec _ _ _ _ _ htr
    refine wp_region ?_
    have := opsRun_wp hE hcall (idx 0 rm.oas) h hops hn
    rw [idx_fst, hlen, Array.length_toList] at this
    rwa [List.range_eq_range']
  | true =>
    have key : ∃ tr, rTr P E call ops ops.toList rm.oas S = some (S', tr) ∧ (∀ p ∈ rm.pairs, chkPair P E call ops rm.oas tr p.1 p.2 = true) ∧ (rm.ns = true → S.tm.all noStV = true ∧ (tr.all fun q => q.2.tw.all fun p => noStV p.2) = true) := by
      simp only [rReg] at hr
      split at hr
      · rename_i hp hns
        obtain ⟨tr, htr⟩ := rOps_rTr _ _ _ _ hr
        exact ⟨tr, htr, fun p hp' => (by rw [hp] at hp'; cases hp'), fun e => (by rw [hns] at e; cases e)⟩
      · split at hr
        · cases hr
        · rename_i S2 tr htr
          cases hc : (rm.pairs.all (fun p => chkPair P E call ops rm.oas tr p.1 p.2) && (!rm.ns || (S.tm.all noStV && tr.all fun q => q.2.tw.all fun p => noStV p.2))) with
          | false => rw [hc] at hr; cases hr
          | true =>
            rw [hc] at hr
            simp only [cond_true, Option.some.injEq] at hr
            subst hr
            simp only [Bool.and_eq_true, Bool.or_eq_true] at hc
            refine ⟨tr, htr, fun p hp => List.all_eq_true.1 hc.1 p hp, fun e => ?_⟩
            rcases hc.2 with e2 | e2
            · rw [e] at e2; cases e2
            · exact e2
    obtain ⟨tr, htr, hps, hns⟩ := key
    obtain ⟨hD, hfin⟩ := drawn_of (hst rfl) htr hps hns
    refine hD.region_wp hE hcall hm h ?_
    rw [hfin]; exact hn

theorem eCode_wp (hE : EnvM P E) (hm : P.follows .mixedOrders = true) {A : Tr RM} (hcall : ∀ f vs hp v hp', call f vs hp = some (v, hp') → CallOK P f vs hp v hp' ∧ Enters P f) :
    ∀ (n : Nat) (c : Code) (S : St) (e : Ex) (S' : St), codeOK E A c = true → eCode P E A call n c S = some (e, S') →
      ∀ (φ : Phi) (lam : Nat → Nat) (perm : Perm) (a : Act) (w : World) (Q : Exit → Act → World → Prop), FRs φ lam perm S a w.heap → (∀ a' w', Nx φ perm S w S' a' w' → Q e.out a' w') →
        c.wp P Q a w ∧ ∀ x, c = .loop x → W1 P x Q a w
  | 0, c, S, e, S', _, hr, _, _, _, _, _, _, _, _ => by simp [eCode] at hr
  | n + 1, c, S, e, S', hR, hr, φ, lam, perm, a, w, Q, h, hn => by
    cases c with
    | skip =>
      simp only [eCode, Option.some.injEq, Prod.mk.injEq] at hr
      obtain ⟨rfl, rfl⟩ := hr
      exact ⟨wp_skip (hn _ _ (Nx.refl h)), fun x hx => by cases hx⟩
    | region id ops d =>
      simp only [eCode] at hr
      split at hr
      · cases hr
      · rename_i rm hA
        split at hr
        · cases hr
        · rename_i S1 h1
          simp only [Option.some.injEq, Prod.mk.injEq] at hr
          obtain ⟨rfl, rfl⟩ := hr
          refine ⟨rReg_wp (anc := (Region.before ops).toList) hE hm hcall (fun hd => ?_) h1 h hn, fun x hx => by cases hx⟩
          subst hd
          simp only [codeOK, hA] at hR
          exact hR
    | seq x y =>
      simp only [eCode] at hr
      simp only [codeOK, Bool.and_eq_true] at hR
      refine ⟨wp_seq ?_, fun x hx => by cases hx⟩
      split at hr
      · cases hr
      · rename_i e1 S1 h1
        refine (eCode_wp hE hm hcall n x S _ S1 hR.1 h1 φ lam perm a w _ h fun a1 w1 hnx => ?_).1
        cases e1 with
        | normal =>
          obtain ⟨⟨φ1, lam1, perm1, hF, hEv, hφ, hhd⟩, -⟩ := id hnx
          exact (eCode_wp hE hm hcall n y S1 e S' hR.2 hr φ1 lam1 perm1 a1 w1 Q hF fun a2 w2 h2 => hn a2 w2 (hnx.then hEv hφ hhd h2)).1
        | exit id =>
          simp only [Option.some.injEq, Prod.mk.injEq] at hr
          obtain ⟨rfl, rfl⟩ := hr
          exact hn a1 w1 hnx
        | ret =>
          simp only [Option.some.injEq, Prod.mk.injEq] at hr
          obtain ⟨rfl, rfl⟩ := hr
          exact hn a1 w1 hnx
    | cond x c1 c2 =>
      simp only [eCode] at hr
      simp only [codeOK, Bool.and_eq_true] at hR
      refine ⟨?_, fun x hx => by cases hx⟩
      split at hr
      · cases hr
      · rename_i t hb
        cases t with
        | true => exact wp_cond_true (cond_sound h hb) (eCode_wp hE hm hcall n c1 S e S' hR.1 hr φ lam perm a w Q h hn).1
        | false => exact wp_cond_false (cond_sound h hb) (eCode_wp hE hm hcall n c2 S e S' hR.2 hr φ lam perm a w Q h hn).1
    | block id x =>
      simp only [eCode] at hr
      simp only [codeOK] at hR
      refine ⟨wp_block ?_, fun x hx => by cases hx⟩
      split at hr
      · cases hr
      · rename_i e1 S1 h1
        refine (eCode_wp hE hm hcall n x S _ S1 hR h1 φ lam perm a w _ h fun a1 w1 hnx => ?_).1
        cases e1 with
        | normal =>
          simp only [Option.some.injEq, Prod.mk.injEq] at hr
          obtain ⟨rfl, rfl⟩ := hr
          exact hn a1 w1 hnx
        | exit id' =>
          simp only [Ex.out, Exit.inBlock]
          by_cases hid : id' = id
          · subst hid
            simp only [show Nat.beq id' id' = true from Nat.beq_refl id', cond_true, Option.some.injEq, Prod.mk.injEq] at hr
            obtain ⟨rfl, rfl⟩ := hr
            rw [if_pos rfl]; exact hn _ _ hnx
          · have : Nat.beq id' id = false := by
              cases hb : Nat.beq id' id
              · rfl
              · exact absurd (Nat.eq_of_beq_eq_true hb) hid
            simp only [this, cond_false, Option.some.injEq, Prod.mk.injEq] at hr
            obtain ⟨rfl, rfl⟩ := hr
            rw [if_neg hid]; exact hn _ _ hnx
        | ret =>
          simp only [Option.some.injEq, Prod.mk.injEq] at hr
          obtain ⟨rfl, rfl⟩ := hr
          exact hn a1 w1 hnx
    | loop x =>
      simp only [eCode] at hr
      have hR' : codeOK E A x = true := hR
      have hW : W1 P x Q a w := by
        refine W1_round ?_
        split at hr
        · cases hr
        · rename_i e1 S1 h1
          refine (eCode_wp hE hm hcall n x S _ S1 hR' h1 φ lam perm a w _ h fun a1 w1 hnx => ?_).1
          cases e1 with
          | normal =>
            obtain ⟨⟨φ1, lam1, perm1, hF, hEv, hφ, hhd⟩, -⟩ := id hnx
            exact (eCode_wp hE hm hcall n (.loop x) S1 e S' hR hr φ1 lam1 perm1 a1 w1 Q hF fun a2 w2 h2 => hn a2 w2 (hnx.then hEv hφ hhd h2)).2 x rfl
          | exit id =>
            simp only [Option.some.injEq, Prod.mk.injEq] at hr
            obtain ⟨rfl, rfl⟩ := hr
            exact hn a1 w1 hnx
          | ret =>
            simp only [Option.some.injEq, Prod.mk.injEq] at hr
            obtain ⟨rfl, rfl⟩ := hr
            exact hn a1 w1 hnx
      exact ⟨wp_loop_W1 hW, fun y hy => by cases hy; exact hW⟩
    | exit id =>
      simp only [eCode, Option.some.injEq, Prod.mk.injEq] at hr
      obtain ⟨rfl, rfl⟩ := hr
      exact ⟨wp_exit (hn _ _ (Nx.refl h)), fun x hx => by cases hx⟩
    | ret =>
      simp only [eCode, Option.some.injEq, Prod.mk.injEq] at hr
      obtain ⟨rfl, rfl⟩ := hr
      exact ⟨wp_ret (hn _ _ (Nx.refl h)), fun x hx => by cases hx⟩
    | rangeFunc _ _ _ _ => simp [eCode] at hr
    | scope _ => simp [eCode] at hr
    | label _ => simp [eCode] at hr
    | goto _ => simp [eCode] at hr
    | refuse _ => simp [eCode] at hr

/-- the table of functions is the program's -/
def TabOK (P : Program) (E : Env) (F : Tr (Func × Tr RM)) : Prop :=
  ∀ (f : Nat) (fn : Func) (A : Tr RM), F.get f = some (fn, A) → P.funcs[f]? = some fn ∧ (fn.name == "runtime.NumGoroutine") = false ∧ ∀ c, fn.body = some c → codeOK E A c = true

/-- a body that is run is a call that is carried out -/
theorem body_ok (hE : EnvM P E) (hm : P.follows .mixedOrders = true) (hcall : ∀ f vs hp v hp', call f vs hp = some (v, hp') → CallOK P f vs hp v hp' ∧ Enters P f)
    {f : Nat} {fn : Func} {A : Tr RM} {c : Code} (hfn : P.funcs[f]? = some fn) (hc : fn.body = some c) (hA : codeOK E A c = true) {n : Nat} {vs : List V} {hp : Heap} {e : Ex} {S' : St}
    (hrun : eCode P E A call n c { tm := vs ++ List.replicate (fn.ntmps - vs.length) .dead, bx := [], hp } = some (e, S')) (he : e = .normal ∨ e = .ret) {v : V} (hv : resV E fn S' = some v) : CallOK P f vs hp v S'.hp := by
  intro φ perm args w hF
  have hsz : args.size = vs.length := hF.len
  have hpad := hF.pad (fn.ntmps - vs.length)
  refine calls_of_wp hfn hc ?_
  rw [hsz]
  refine (eCode_wp hE hm hcall n c _ e S' hA hrun φ _ perm _ w _ hpad fun a' w' hnx => ?_).1
  obtain ⟨⟨φ', lam', perm', hF', hEv, hφ, hhd⟩, hlen, h1, h2, h3⟩ := hnx
  obtain ⟨x, hx, hvr, hrt⟩ := resV_sound hE hF' hv
  rcases he with rfl | rfl <;> exact ⟨hF'.defers, x, hx, φ', lam', perm', S', a', hF', rfl, hlen, hvr, hrt, hEv, hφ, hhd, h1, h2, h3⟩

theorem eCall_ok (hE : EnvM P E) (hm : P.follows .mixedOrders = true) {F : Tr (Func × Tr RM)} (hF : TabOK P E F) :
    ∀ (n f : Nat) (vs : List V) (hp : Heap) (v : V) (hp' : Heap), eCall P E F n f vs hp = some (v, hp') → CallOK P f vs hp v hp' ∧ Enters P f
  | 0, f, vs, hp, v, hp', h => by simp [eCall] at h
  | n + 1, f, vs, hp, v, hp', h => by
    simp only [eCall] at h
    split at h
    · cases h
    · rename_i fn A hg
      obtain ⟨hfn, hname, hA⟩ := hF f fn A hg
      split at h
      · cases h
      · rename_i c hc
        rw [allK_eq] at h
        refine ⟨?_, fn, hfn, hname, by rw [hc]; rfl⟩
        split at h
        · cases h
        · rename_i e S' hrun
          have fin : (e = .normal ∨ e = .ret) → (match resV E fn S' with | none => none | some v => some (v, S'.hp)) = some (v, hp') → CallOK P f vs hp v hp' := fun he h => by
            cases hv : resV E fn S' with
            | none => rw [hv] at h; cases h
            | some v0 =>
              rw [hv] at h
              simp only [Option.some.injEq, Prod.mk.injEq] at h
              obtain ⟨rfl, rfl⟩ := h
              exact body_ok hE hm (eCall_ok hE hm hF n) hfn hc (hA c hc) hrun he hv
          cases e with
          | exit id => cases h
          | normal => exact fin (.inl rfl) h
          | ret => exact fin (.inr rfl) h
end
end Go.Hx

/-
  Hx: the table of types, looked at by the kernel: comparisons.
-/
namespace Go.Hx
open Go

/-- a type whose values are rows of numbers and truth values, laid one behind the other: their kinds -/
def flatGo (f : Nat → Option (List Kd)) : List Field → Nat → Option (List Kd)
  | [], _ => some []
  | fd :: r, off => bif Nat.beq fd.offset off && !(fd.name == "_") then
      match f fd.type with
      | some ks => (match flatGo f r (off + ks.length) with | some l => some (ks ++ l) | none => none)
      | none => none
    else none

def flat (P : Program) : Nat → Nat → Option (List Kd)
  | 0, _ => none
  | d + 1, t =>
    match P.info? t, P.underlying t with
    | some inf, some (.int k) => bif Nat.beq inf.size 1 then some [.i k] else none
    | some inf, some .bool => bif Nat.beq inf.size 1 then some [.b] else none
    | some inf, some .string => bif Nat.beq inf.size 1 then some [.s] else none
    | some inf, some (.struct fs) => bif P.stoodInHeld t then none else
      match flatGo (flat P d) fs.toList 0 with
      | some ks => bif Nat.beq inf.size ks.length then some ks else none
      | none => none
    | _, _ => none

/-- a row of values -/
def RowV (C : Ctx) (cs : List V) (xs : Array Value) : Prop := xs.size = cs.length ∧ ∀ (i : Nat) v, cs[i]? = some v → ∃ y, xs[i]? = some y ∧ VR C v y

def isAggT (P : Program) (t : Nat) : Bool := match P.underlying t with | some (.struct _) | some (.array _ _) => true | _ => false

/-- a value of a flat type, as a row -/
def OfV (C : Ctx) (agg : Bool) (cs : List V) (x : Value) : Prop :=
  match agg with
  | true => ∃ xs, x = .agg xs ∧ RowV C cs xs
  | false => ∃ v, cs = [v] ∧ VR C v x

/-- one cell -/
def eq1 (v u : V) : Option Bool :=
  match v, u with
  | .raw (.int j a), .raw (.int k b) => if decide (j = k) then some (a == b) else none
  | .raw (.string a), .raw (.string b) => some (a.toList == b.toList)
  | v, u => match v.bool?, u.bool? with | some a, some b => some (a == b) | _, _ => none

theorem eqCells_cons (v u : V) (a b : List V) : eqCells (v :: a) (u :: b) = (eq1 v u).bind fun x => (eqCells a b).map fun y => x && y := by
  unfold eq1
  cases v
  case raw x =>
    cases x <;> cases u <;> try rfl
    all_goals (rename_i y; cases y <;> try rfl)
    simp only [eqCells]
    split <;> simp_all
  all_goals (cases u <;> try rfl)
  all_goals (rename_i y; cases y <;> rfl)

theorem eqCells_append : ∀ {a c : List V} (b d : List V) {r : Bool}, a.length = c.length → eqCells (a ++ b) (c ++ d) = some r → ∃ x y, eqCells a c = some x ∧ eqCells b d = some y ∧ r = (x && y)
  | [], [], b, d, r, _, h => ⟨true, r, rfl, h, by simp⟩
  | [], _ :: _, _, _, _, hl, _ => by simp at hl
  | _ :: _, [], _, _, _, hl, _ => by simp at hl
  | v :: a, u :: c, b, d, r, hl, h => by
    simp only [List.cons_append, eqCells_cons] at h
    obtain ⟨x0, h0, h1⟩ := Option.bind_eq_some_iff.1 h
    obtain ⟨r1, h2, h3⟩ := Option.map_eq_some_iff.1 h1
    obtain ⟨x, y, k1, k2, k3⟩ := eqCells_append b d (by simpa using hl) h2
    refine ⟨x0 && x, y, by rw [eqCells_cons, h0, k1]; rfl, k2, ?_⟩
    rw [← h3, k3, Bool.and_assoc]

theorem fitK_int {k k' : IntKind} {n : Int} {ks : List Kd} {r : List V} : fitK (.i k :: ks) (.raw (.int k' n) :: r) = (eqKind k k' && fitK ks r) := rfl

theorem fitK_str {x : ByteArray} {ks : List Kd} {r : List V} : fitK (.s :: ks) (.raw (.string x) :: r) = fitK ks r := rfl

theorem fitK_bool {v : V} {ks : List Kd} {r : List V} : fitK (.b :: ks) (v :: r) = (v.bool?.isSome && fitK ks r) := rfl

theorem fitK_cons {k : Kd} {ks : List Kd} : ∀ {cs : List V}, fitK (k :: ks) cs = true → ∃ v r, cs = v :: r ∧ fitK [k] [v] = true ∧ fitK ks r = true := by
  intro cs h
  cases cs with
  | nil => cases k <;> cases h
  | cons v r =>
    refine ⟨v, r, rfl, ?_⟩
    cases k with
    | b =>
      rw [fitK_bool] at h ⊢
      simp only [Bool.and_eq_true] at h ⊢
      exact ⟨⟨h.1, rfl⟩, h.2⟩
    | s =>
      cases v
      case raw x =>
        cases x
        case string z => rw [fitK_str] at h ⊢; exact ⟨rfl, h⟩
        all_goals cases h
      all_goals cases h
    | i k0 =>
      cases v
      case raw x =>
        cases x
        case int k n =>
          rw [fitK_int] at h ⊢
          simp only [Bool.and_eq_true] at h ⊢
          exact ⟨⟨h.1, rfl⟩, h.2⟩
        all_goals cases h
      all_goals cases h

theorem fitK_append : ∀ {ks ls : List Kd} {cs : List V}, fitK (ks ++ ls) cs = true → fitK ks (cs.take ks.length) = true ∧ fitK ls (cs.drop ks.length) = true
  | [], ls, cs, h => ⟨by simp [fitK], by simpa using h⟩
  | k :: ks, ls, cs, h => by
    obtain ⟨v, r, rfl, h1, h2⟩ := fitK_cons (ks := ks ++ ls) h
    obtain ⟨h3, h4⟩ := fitK_append h2
    refine ⟨?_, by simpa using h4⟩
    simp only [List.length_cons, List.take_succ_cons]
    cases k with
    | b =>
      rw [fitK_bool] at h1 ⊢
      simp only [Bool.and_eq_true] at h1 ⊢
      exact ⟨h1.1, h3⟩
    | s =>
      cases v
      case raw x =>
        cases x
        case string z => rw [fitK_str]; exact h3
        all_goals cases h1
      all_goals cases h1
    | i k0 =>
      cases v
      case raw x =>
        cases x
        case int k n =>
          rw [fitK_int] at h1 ⊢
          simp only [Bool.and_eq_true] at h1 ⊢
          exact ⟨h1.1, h3⟩
        all_goals cases h1
      all_goals cases h1

theorem fitK_len : ∀ {ks : List Kd} {cs : List V}, fitK ks cs = true → cs.length = ks.length
  | [], cs, h => by cases cs with | nil => rfl | cons _ _ => cases h
  | k :: ks, cs, h => by
    obtain ⟨v, r, rfl, -, h2⟩ := fitK_cons h
    simp [fitK_len h2]

section
variable {P : Program} {C : Ctx}

theorem rowV_part {cs : List V} {xs : Array Value} (h : RowV C cs xs) (off n : Nat) (hle : off + n ≤ cs.length) : RowV C ((cs.drop off).take n) (xs.extract off (off + n)) := by
  obtain ⟨h1, h2⟩ := h
  refine ⟨by simp; omega, fun i v hi => ?_⟩
  rw [List.getElem?_take] at hi
  split at hi
  · rename_i hlt
    rw [List.getElem?_drop] at hi
    obtain ⟨y, hy, hv⟩ := h2 _ v hi
    refine ⟨y, ?_, hv⟩
    rw [Array.getElem?_extract, if_pos (by omega)]; exact hy
  · cases hi

/-- a part of a value -/
theorem part_run {t n : Nat} {inf : TypeInfo} (hi : P.info? t = some inf) (hu : (P.underlying t).isSome = true) (hn : inf.size = n) (ha : isAggT P t = false → n = 1) {cs : List V} {xs : Array Value} (h : RowV C cs xs) {off : Nat} (hle : off + n ≤ cs.length) (w : World) :
    ∃ x, (part t xs off).run P w = .ok x w ∧ OfV C (isAggT P t) ((cs.drop off).take n) x := by
  obtain ⟨td, htd⟩ := Option.isSome_iff_exists.1 hu
  have hagg : (isAgg t).run P w = .ok (isAggT P t) w := by
    simp only [isAgg, Sem.run_bind, rU htd, Result.andThen_ok]
    unfold isAggT
    rw [htd]
    cases td <;> rfl
  cases hA : isAggT P t with
  | true =>
    refine ⟨.agg (xs.extract off (off + n)), ?_, _, rfl, rowV_part h off n hle⟩
    rw [hA] at hagg
    simp only [part, Sem.run_bind, hagg, Result.andThen_ok, if_true, rS hi, hn, Sem.run_pure]
  | false =>
    have hn1 := ha hA
    subst hn1
    have hlt : off < cs.length := by omega
    obtain ⟨y, hy, hv⟩ := h.2 off cs[off] (by simp [hlt])
    refine ⟨y, ?_, cs[off], ?_, hv⟩
    · rw [hA] at hagg
      simp only [part, Sem.run_bind, hagg, Result.andThen_ok, Bool.false_eq_true, if_false, hy, Sem.run_pure]
    · rw [List.take_one, List.head?_drop]; simp [hlt]

theorem flat_info : ∀ {d t : Nat} {ks : List Kd}, flat P d t = some ks → ∃ inf td, P.info? t = some inf ∧ P.underlying t = some td ∧ inf.size = ks.length ∧ (isAggT P t = false → ks.length = 1)
  | 0, t, n, h => by cases h
  | d + 1, t, n, h => by
    unfold flat at h
    split at h
    · rename_i inf k hi hu
      cases hb : Nat.beq inf.size 1 <;> rw [hb] at h <;> cases h
      exact ⟨inf, _, hi, hu, Nat.eq_of_beq_eq_true hb, fun _ => rfl⟩
    · rename_i inf hi hu
      cases hb : Nat.beq inf.size 1 <;> rw [hb] at h <;> cases h
      exact ⟨inf, _, hi, hu, Nat.eq_of_beq_eq_true hb, fun _ => rfl⟩
    · rename_i inf hi hu
      cases hb : Nat.beq inf.size 1 <;> rw [hb] at h <;> cases h
      exact ⟨inf, _, hi, hu, Nat.eq_of_beq_eq_true hb, fun _ => rfl⟩
    · rename_i inf fs hi hu
      cases hs : P.stoodInHeld t <;> rw [hs] at h
      · dsimp only [cond_false] at h
        split at h
        · rename_i m hm
          cases hb : Nat.beq inf.size m.length <;> rw [hb] at h <;> cases h
          exact ⟨inf, _, hi, hu, Nat.eq_of_beq_eq_true hb, fun e => by unfold isAggT at e; rw [hu] at e; cases e⟩
        · cases h
      · cases h
    · cases h

/-- a struct's fields, one by one -/
theorem flatGo_cons {f : Nat → Option (List Kd)} {fd : Field} {r : List Field} {off : Nat} {ks : List Kd} (h : flatGo f (fd :: r) off = some ks) :
    ∃ k1 k2, fd.offset = off ∧ (fd.name == "_") = false ∧ f fd.type = some k1 ∧ flatGo f r (off + k1.length) = some k2 ∧ ks = k1 ++ k2 := by
  simp only [flatGo] at h
  cases hc : (Nat.beq fd.offset off && !(fd.name == "_")) <;> rw [hc] at h
  · cases h
  · simp only [cond_true] at h
    simp only [Bool.and_eq_true, Bool.not_eq_true'] at hc
    split at h
    · rename_i k1 h1
      split at h
      · rename_i k2 h2
        cases h
        exact ⟨k1, k2, Nat.eq_of_beq_eq_true hc.1, hc.2, h1, h2, rfl⟩
      · cases h
    · cases h

/-- the model's loop over the fields -/
def eqFields (D : Nat) (xs ys : Array Value) : List Field → Sem Bool
  | [] => pure true
  | f :: r => do
    if f.name ≠ "_" then
      if !(← Op.equalIn D f.type (← part f.type xs f.offset) (← part f.type ys f.offset)) then return false
    eqFields D xs ys r

theorem eqFields_eq (D : Nat) (xs ys : Array Value) (fs : Array Field) :
    (do
      for f in fs do
        if f.name ≠ "_" then
          if !(← Op.equalIn D f.type (← part f.type xs f.offset) (← part f.type ys f.offset)) then return false
      pure true : Sem Bool) = eqFields D xs ys fs.toList := by
  simp only [← Array.forIn_toList]
  generalize fs.toList = l
  induction l with
  | nil => simp [eqFields]
  | cons f r ih =>
    simp only [List.forIn_cons, eqFields]
    by_cases hf : f.name ≠ "_"
    · simp only [hf, if_true, ne_eq, not_false_eq_true]
      simp only [bind_assoc]
      congr 1; funext a
      congr 1; funext b
      congr 1; funext c
      cases c
      · simp
      · simp only [Bool.not_true, Bool.false_eq_true, if_false, pure_bind]
        exact ih
    · simp only [hf, if_false, pure_bind]
      exact ih
end
end Go.Hx
