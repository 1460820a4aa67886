/-
  A library of this claim, part 1: what each operation of the program does to abstract values and memory, proved once against the model; an engine over it that the kernel can run, and its soundness. No condition.
-/
import Derived.Orders
import Derived.Below
import Derived.Laws.CopyRow
import Derived.Laws.Cells
import Derived.WalkSpells
import Derived.Laws.Pointers
import Derived.Laws.StructEq
import Derived.Laws.BytesString
/-
  Hx, part 1: abstract values and memory, and how they lie in a world of the model.
-/
namespace Go.Hx
open Go

/-- abstract values -/
inductive V where
  | raw (x : Value)
  | tt
  | ff
  | ptr (b o : Nat)
  | lptr (s o : Nat)
  | eref (cs : List V) (o : Nat)
  | sl (k : Nat) (es : List (List V)) (r : Nat)
  | msl (b o k n c : Nat)
  | lmsl (s o k n c : Nat)
  | map (m : Nat)
  | clo (f : Nat) (fst cs : List V)
  | gs (g ver o n : Nat)
  | gptr (g ver j : Nat)
  | eit (b : Nat)
  | agg (cs : List V)
  | tup (vs : List V)
  | stamp (m i : Nat)
  | ment (v : V) (m i : Nat)
  | dead
  deriving Inhabited

/-- what lies in the abstract heap -/
inductive HObj where
  | cells (cs : List V)
  | map (ar : Nat) (es : List (V × V))
  | vec (k : Nat) (cs : List V) (ver : Nat)
  | eit (m : Nat)
  | gone
  deriving Inhabited

abbrev Heap := List HObj

def V.cells : V → List V
  | .agg cs => cs
  | v => [v]

/-- a value of one cell -/
def one : Value → Bool
  | .agg _ | .tuple _ => false
  | _ => true

/-- may it lie in a cell of memory? -/
def V.cell : V → Bool
  | .agg _ | .tup _ | .lptr .. | .lmsl .. | .dead | .stamp .. | .ment .. => false
  | _ => true

/-- who may write a block (from a cell on) -/
inductive Pos where
  | t (i : Nat)
  | b (s i : Nat)
  | h (b i : Nat)
  | ret
  deriving DecidableEq

inductive Holder where
  | hb (b : Nat)
  | lb (s : Nat)
  | sp (p : Pos)
  | other
  deriving DecidableEq

abbrev Perm := Nat → Option (Holder × Nat)

/-- is a cell never to be written again? -/
def imm (perm : Perm) (r o : Nat) : Bool :=
  match perm r with
  | none => true
  | some (_, lo) => o < lo

/-- where blocks lie; where the versions of a vector lie: block, offset, capacity, cells of an element -/
structure Phi where
  f : Nat → Nat
  hd : Nat → Nat → Option (Nat × Nat × Nat × Nat)

instance : CoeFun Phi (fun _ => Nat → Nat) := ⟨Phi.f⟩

/-- the laid tables -/
class Glob where
  gl : Nat → List V

/-- what values are read by: where blocks lie, the cells that stay, how large blocks are -/
structure Ctx where
  φ : Nat → Nat
  hd : Nat → Nat → Option (Nat × Nat × Nat × Nat)
  nb : Nat
  rd : Nat → Nat → Option Value
  sz : Nat → Nat

inductive VR (C : Ctx) : V → Value → Prop
  | raw {x : Value} (h : one x = true) : VR C (.raw x) x
  | tt : VR C .tt (.bool true)
  | ff : VR C .ff (.bool false)
  | ptr {b o : Nat} (h : b < C.nb) : VR C (.ptr b o) (.pointer (some ⟨C.φ b, o, none⟩))
  | eref {cs : List V} {o r off : Nat} (vals : Nat → Value) (h : ∀ i, i < cs.length → C.rd r (off + i) = some (vals i))
      (hv : ∀ i v, cs[i]? = some v → VR C v (vals i)) (hc : ∀ v ∈ cs, v.cell = true) : VR C (.eref cs o) (.pointer (some ⟨r, off + o, none⟩))
  | slnil {k r : Nat} : VR C (.sl k [] r) (.slice none 0 0)
  | sl {k : Nat} {es : List (List V)} {rt r off n cap : Nat} (vals : Nat → Value) (hn : es.length = n) (hcap : n ≤ cap) (hk : ∀ e ∈ es, e.length = k)
      (h : ∀ i, i < n * k → C.rd r (off + i) = some (vals i))
      (hv : ∀ i v, es.flatten[i]? = some v → VR C v (vals i)) (hc : ∀ v ∈ es.flatten, v.cell = true) (hz : es = [] → rt = 1 → cap = 0) (h3 : rt ≠ 3) : VR C (.sl k es rt) (.slice (some ⟨r, off, none⟩) n cap)
  | msl {b o k n c cap : Nat} (hb : b < C.nb) (hn : n ≤ c) (hc : c ≤ cap) (hs : o + cap * k ≤ C.sz (C.φ b)) : VR C (.msl b o k n c) (.slice (some ⟨C.φ b, o, none⟩) n cap)
  | map {m : Nat} (h : m < C.nb) : VR C (.map m) (.map (some (C.φ m)))
  | clo {f : Nat} {fst cs : List V} {farr arr : Array Value} (fvals vals : Nat → Value) (hfs : farr.size = fst.length) (hf : ∀ i, i < fst.length → farr[i]? = some (fvals i))
      (hfv : ∀ i v, fst[i]? = some v → VR C v (fvals i)) (hs : arr.size = cs.length) (h : ∀ i, i < cs.length → arr[i]? = some (vals i))
      (hv : ∀ i v, cs[i]? = some v → VR C v (vals i)) : VR C (.clo f fst cs) (.func (.func f) farr arr)
  | gs {g ver o n r off cap k : Nat} (h : C.hd g ver = some (r, off, cap, k)) (hn : o + n ≤ cap) : VR C (.gs g ver o n) (.slice (some ⟨r, off + o * k, none⟩) n (cap - o))
  | gptr {g ver j r off cap k : Nat} (h : C.hd g ver = some (r, off, cap, k)) : VR C (.gptr g ver j) (.pointer (some ⟨r, off + j, none⟩))
  | eit {b : Nat} (h : b < C.nb) : VR C (.eit b) (.pointer (some ⟨C.φ b, 0, none⟩))
  | agg {cs : List V} {arr : Array Value} (vals : Nat → Value) (hs : arr.size = cs.length) (h : ∀ i, i < cs.length → arr[i]? = some (vals i))
      (hv : ∀ i v, cs[i]? = some v → VR C v (vals i)) (hc : ∀ v ∈ cs, v.cell = true) : VR C (.agg cs) (.agg arr)
  | tup {cs : List V} {arr : Array Value} (vals : Nat → Value) (hs : arr.size = cs.length) (h : ∀ i, i < cs.length → arr[i]? = some (vals i))
      (hv : ∀ i v, cs[i]? = some v → VR C v (vals i)) : VR C (.tup cs) (.tuple arr)

structure Ctx.le (C C' : Ctx) : Prop where
  φ : ∀ b, b < C.nb → C'.φ b = C.φ b
  nb : C.nb ≤ C'.nb
  hd : ∀ g v x, C.hd g v = some x → C'.hd g v = some x
  rd : ∀ r o v, C.rd r o = some v → C'.rd r o = some v
  sz : ∀ b, b < C.nb → C.sz (C.φ b) ≤ C'.sz (C.φ b)

theorem VR.mono {C C' : Ctx} (hC : C.le C') {v : V} {x : Value} (h : VR C v x) : VR C' v x := by
  induction h with
  | raw h => exact .raw h
  | tt => exact .tt
  | ff => exact .ff
  | ptr h => rw [← hC.φ _ h]; exact .ptr (Nat.lt_of_lt_of_le h hC.nb)
  | eref vals h hv hc ih => exact .eref vals (fun i hi => hC.rd _ _ _ (h i hi)) ih hc
  | slnil => exact .slnil
  | sl vals hn hcap hk h hv hc hz h3 ih => exact .sl vals hn hcap hk (fun i hi => hC.rd _ _ _ (h i hi)) ih hc hz h3
  | msl hb hn hc hs => rw [← hC.φ _ hb]; exact .msl (Nat.lt_of_lt_of_le hb hC.nb) hn hc (by rw [hC.φ _ hb]; exact Nat.le_trans hs (hC.sz _ hb))
  | map h => rw [← hC.φ _ h]; exact .map (Nat.lt_of_lt_of_le h hC.nb)
  | clo fvals vals hfs hf hfv hs h hv ihf ih => exact .clo fvals vals hfs hf ihf hs h ih
  | gs h hn => exact .gs (hC.hd _ _ _ h) hn
  | gptr h => exact .gptr (hC.hd _ _ _ h)
  | eit h => rw [← hC.φ _ h]; exact .eit (Nat.lt_of_lt_of_le h hC.nb)
  | agg vals hs h hv hc ih => exact .agg vals hs h ih hc
  | tup vals hs h hv ih => exact .tup vals hs h ih

theorem Ctx.le.refl (C : Ctx) : C.le C := ⟨fun _ _ => rfl, Nat.le_refl _, fun _ _ _ h => h, fun _ _ _ h => h, fun _ _ => Nat.le_refl _⟩

theorem VR.one_of_cell {C : Ctx} {v : V} {x : Value} (h : VR C v x) (hc : v.cell = true) : one x = true := by
  cases h <;> first | rfl | assumption | (simp [V.cell] at hc)

abbrev Mem := Array Obj

/-- the size of a block of cells -/
def blockSize (M : Mem) (r : Nat) : Nat :=
  match M[r]? with
  | some (.cells c _ _) => c.size
  | _ => 0

/-- a cell of memory -/
def cellAt (M : Mem) (r o : Nat) : Option Value :=
  match M[r]? with
  | some (.cells c _ _) => c[o]?
  | _ => none

theorem cell?_eq (w : World) (r o : Nat) : w.cell? ⟨r, o, none⟩ = cellAt w.heap r o := by
  unfold World.cell? cellAt
  cases w.heap[r]? with
  | none => rfl
  | some x => cases x <;> rfl

def mkC (φ : Phi) (nb : Nat) (perm : Perm) (M : Mem) : Ctx :=
  { φ := φ.f, hd := φ.hd, nb, rd := fun r o => if imm perm r o then cellAt M r o else none, sz := blockSize M }

/-- rights to append, held at a place -/
def Rt (perm : Perm) (M : Mem) (p : Pos) : V → Value → Prop
  | .sl k _ r, .slice (some a) n cap => 1 ≤ r % 3 → n < cap → perm a.block = some (.sp p, a.off + n * k) ∧ ∃ c elem, M[a.block]? = some (.cells c elem (0, 0)) ∧ a.off + cap * k ≤ c.size
  | _, _ => True

def CR (C : Ctx) (perm : Perm) (M : Mem) (p : Pos) (v : V) (x : Value) : Prop :=
  v = .dead ∨ (v.cell = true ∧ VR C v x ∧ Rt perm M p v x)

def RowR (C : Ctx) (perm : Perm) (M : Mem) (p : Nat → Pos) (cs : List V) (arr : Array Value) : Prop :=
  cs.length ≤ arr.size ∧ ∀ i v, cs[i]? = some v → ∃ x, arr[i]? = some x ∧ CR C perm M (p i) v x

/-- a key: an int (0), or so many ints -/
def keyOk (ar : Nat) : V → Bool
  | .raw (.int .i64 _) => ar == 0
  | .agg cs => ar == cs.length && ar != 0 && cs.all fun v => match v with | .raw (.int .i64 _) => true | _ => false
  | _ => false

structure MapR (C : Ctx) (ar : Nat) (es : List (V × V)) (ents : Array MapEntry) (clock : Nat) : Prop where
  size : ents.size = es.length
  ent : ∀ (i : Nat) (k v : V), es[i]? = some (k, v) → ∃ e : MapEntry, ents[i]? = some e ∧ keyOk ar k = true ∧ VR C k e.key ∧ VR C v e.val ∧ e.born < clock
  born : ∀ (i j : Nat) (e e' : MapEntry), ents[i]? = some e → ents[j]? = some e' → e.born = e'.born → i = j

/-- a vector's cells -/
structure VecR (C : Ctx) (cs : List V) (arr : Array Value) (off : Nat) : Prop where
  each : ∀ (i : Nat) (v : V), cs[i]? = some v → v.cell = true ∧ ∃ x, arr[off + i]? = some x ∧ VR C v x ∧ ∀ perm M p, Rt perm M p v x

structure HR (C : Ctx) (perm : Perm) (h : Heap) (M : Mem) : Prop where
  cells : ∀ b cs, h[b]? = some (.cells cs) → perm (C.φ b) = some (.hb b, 0) ∧ ∃ arr elem, M[C.φ b]? = some (.cells arr elem (0, 0)) ∧ RowR C perm M (.h b) cs arr
  maps : ∀ b ar es, h[b]? = some (.map ar es) → perm (C.φ b) = some (.hb b, 0) ∧ ∃ ents clock, M[C.φ b]? = some (.map ents clock) ∧ MapR C ar es ents clock
  vecs : ∀ b k cs ver, h[b]? = some (.vec k cs ver) → ∃ r off cap arr elem N, C.hd b ver = some (r, off, cap, k) ∧ (∀ ver', ver < ver' → C.hd b ver' = none) ∧ perm r = some (.hb b, 0) ∧
    M[r]? = some (.cells arr elem (0, 0)) ∧ off + cap * k ≤ arr.size ∧ cs.length = N * k ∧ N ≤ cap ∧ VecR C cs arr off
  eits : ∀ b m, h[b]? = some (.eit m) → m < C.nb ∧ perm (C.φ b) = some (.hb b, 0) ∧ ∃ clock seen clock', M[C.φ b]? = some (.mapIter (some (C.φ m)) clock seen clock')
  hdlt : ∀ g ver, C.nb ≤ g → C.hd g ver = none

def StampR (C : Ctx) (M : Mem) (m i : Nat) (x : Value) : Prop :=
  m < C.nb ∧ ∃ ents clock, ∃ e : MapEntry, M[C.φ m]? = some (.map ents clock) ∧ ents[i]? = some e ∧ x = goInt e.born

def TV (C : Ctx) (perm : Perm) (M : Mem) (lam : Nat → Nat) (bx : Nat → Option (List V)) (t : Nat) (v : V) (x : Value) : Prop :=
  match v with
  | .dead => True
  | .lptr s o => (bx s).isSome = true ∧ x = .pointer (some ⟨lam s, o, none⟩)
  | .lmsl s o k n c => ∃ cs, bx s = some cs ∧ n ≤ c ∧ o + c * k ≤ cs.length ∧ x = .slice (some ⟨lam s, o, none⟩) n c
  | .stamp m i => StampR C M m i x
  | .ment v m i => ∃ y z, x = .tuple #[y, z] ∧ VR C v y ∧ StampR C M m i z
  | v => VR C v x ∧ Rt perm M (.t t) v x

def look {α : Type} : List (Nat × α) → Nat → Option α
  | [], _ => none
  | (k, v) :: r, s => if k == s then some v else look r s

def setBx {α : Type} : List (Nat × α) → Nat → α → List (Nat × α)
  | [], s, v => [(s, v)]
  | (k, u) :: r, s, v => if k == s then (k, v) :: r else (k, u) :: setBx r s v

theorem look_setBx {α : Type} (l : List (Nat × α)) (s : Nat) (v : α) (s' : Nat) : look (setBx l s v) s' = if s = s' then some v else look l s' := by
  induction l with
  | nil => simp [setBx, look]
  | cons p r ih =>
    obtain ⟨k, u⟩ := p
    by_cases h : k = s
    · subst h; simp only [setBx, beq_self_eq_true, if_true, look, beq_iff_eq]
      by_cases h' : k = s' <;> simp [h']
    · have : (k == s) = false := by simpa using h
      simp only [setBx, this, Bool.false_eq_true, if_false, look, ih, beq_iff_eq]
      by_cases h' : k = s'
      · subst h'; have : ¬ s = k := fun e => h e.symm
        simp [this]
      · simp [h']

structure St where
  tm : List V
  bx : List (Nat × List V)
  hp : Heap

def St.box (S : St) (s : Nat) : Option (List V) := look S.bx s

structure FRs [Glob] (φ : Phi) (lam : Nat → Nat) (perm : Perm) (S : St) (a : Act) (M : Mem) : Prop where
  hr : HR (mkC φ S.hp.length perm M) perm S.hp M
  br : ∀ s cs, S.box s = some cs → perm (lam s) = some (.lb s, 0) ∧ ∃ arr elem, M[lam s]? = some (.cells arr elem (0, 0)) ∧ RowR (mkC φ S.hp.length perm M) perm M (.b s) cs arr
  tm : ∀ t v, S.tm[t]? = some v → TV (mkC φ S.hp.length perm M) perm M lam S.box t v (a.tmps.getD t undef)
  len : a.tmps.size = S.tm.length
  defers : a.defers = []
  fresh : ∀ r, M.size ≤ r → perm r = none
  gl : ∀ (g i : Nat) (v : V), (Glob.gl g)[i]? = some v → ∃ x, v = .raw x ∧ one x = true ∧ imm perm g i = true ∧ cellAt M g i = some x

end Go.Hx

/-
  Hx, part 2: what an operation does to abstract values and memory.
-/
namespace Go.Hx
open Go

inductive Sh where
  | int (k : IntKind)
  | bool
  | str
  | slice (elem k : Nat)
  | arr (n elem k : Nat)
  | struct (fs : List (Nat × Nat × Nat))      -- offset, size, type
  | ptr
  | map (key elem : Nat)
  | fn
  | other
  deriving Inhabited

/-- the kind of a cell that can be compared -/
inductive Kd where
  | i (k : IntKind)
  | b
  | s

structure TI where
  size : Nat := 1
  agg : Bool := false
  sh : Sh := .other
  zero : List V := []
  bytes : Nat := 8
  eqo : Option (List Kd) := none
  deriving Inhabited

structure Env where
  ti : Nat → TI

def TI.ok (i : TI) : Bool := match i.sh with | .other => false | _ => true

def Env.kOf (E : Env) (t : Nat) : Nat := match (E.ti t).sh with | .slice _ k => k | _ => 0

/-- an operation's remarks: which operands are moved out of; how it makes memory -/
structure OA where
  take : List Nat := []
  mode : Nat := 0
  deriving Inhabited

structure Upd where
  tw : List (Nat × V) := []
  bw : Option (Nat × List V) := none
  hw : Option Heap := none

inductive Out where
  | fail
  | ok (u : Upd)
  | pick (b : Bool) (x y : Out)
  | need (p : Prop) (d : Decidable p) (o : Out)
  | elem (es : List (List V)) (i : Nat) (f : List V → Out)
  | cell (cs : List V) (i : Nat) (f : V → Out)
  | byte (s : ByteArray) (i : Nat) (f : UInt8 → Out)
  | find (r : Option V) (f : V → Out) (g : Out)
  | anyb (p : Prop) (f : Bool → Out)

def Out.wp (K : Upd → Prop) : Out → Prop
  | .fail => False
  | .ok u => K u
  | .pick b x y => (b = true → x.wp K) ∧ (b = false → y.wp K)
  | .need p _ o => p ∧ o.wp K
  | .elem es i f => ∀ e, es[i]? = some e → (f e).wp K
  | .cell cs i f => ∀ e, cs[i]? = some e → (f e).wp K
  | .byte s i f => ∀ c, s.data[i]? = some c → (f c).wp K
  | .find r f g => (∀ v, r = some v → (f v).wp K) ∧ (r = none → g.wp K)
  | .anyb p f => ∀ b, (p → b = false) → (f b).wp K

def Out.run : Out → Option Upd
  | .fail => none
  | .ok u => some u
  | .pick b x y => match b with | true => x.run | false => y.run
  | .need _ d o => match d with | .isTrue _ => o.run | .isFalse _ => none
  | .elem es i f => match es[i]? with | some e => (f e).run | none => none
  | .cell cs i f => match cs[i]? with | some e => (f e).run | none => none
  | .byte s i f => match s.data[i]? with | some e => (f e).run | none => none
  | .find r f g => match r with | some v => (f v).run | none => g.run
  | .anyb _ _ => none

theorem Out.wp_of_run (K : Upd → Prop) : ∀ (o : Out) (u : Upd), o.run = some u → K u → o.wp K
  | .fail, _, h, _ => by cases h
  | .ok _, _, h, hk => by cases h; exact hk
  | .pick true x y, u, h, hk => ⟨fun _ => Out.wp_of_run K x u h hk, fun h => (by cases h)⟩
  | .pick false x y, u, h, hk => ⟨fun h => (by cases h), fun _ => Out.wp_of_run K y u h hk⟩
  | .need p (.isTrue hp) o, u, h, hk => ⟨hp, Out.wp_of_run K o u h hk⟩
  | .need p (.isFalse hp) o, u, h, hk => by cases h
  | .elem es i f, u, h, hk => fun e he => Out.wp_of_run K (f e) u (by simp only [Out.run, he] at h; exact h) hk
  | .cell es i f, u, h, hk => fun e he => Out.wp_of_run K (f e) u (by simp only [Out.run, he] at h; exact h) hk
  | .byte es i f, u, h, hk => fun e he => Out.wp_of_run K (f e) u (by simp only [Out.run, he] at h; exact h) hk
  | .find r f g, u, h, hk => ⟨fun v hv => Out.wp_of_run K (f v) u (by simp only [Out.run, hv] at h; exact h) hk, fun hn => Out.wp_of_run K g u (by simp only [Out.run, hn] at h; exact h) hk⟩
  | .anyb _ _, _, h, _ => by cases h

def V.strip : V → V
  | .sl k es r => .sl k es (match r with | 3 => 3 | _ => 0)
  | v => v

def V.isDead : V → Bool
  | .dead => true
  | _ => false

/-- a constant, abstractly -/
def lift (k : Nat) : Value → V
  | .slice none 0 0 => .sl k [] 3
  | .bool true => .tt
  | .bool false => .ff
  | .int k n => .raw (.int k n)
  | .string s => .raw (.string s)
  | .pointer none => .raw (.pointer none)
  | .map none => .raw (.map none)
  | _ => .dead

def getT (tm : List V) (t : Nat) : V := (tm[t]?).getD .dead

def evO [Glob] (tm : List V) (take : List Nat) (k : Nat) : Operand → V
  | .tmp t => if take.contains t then getT tm t else (getT tm t).strip
  | .const v => lift k v
  | .global g => .eref (Glob.gl g) 0
  | .func f => .clo f [] []

def V.bool? : V → Option Bool
  | .tt => some true
  | .ff => some false
  | .raw (.bool b) => some b
  | _ => none

def V.int? : V → Option (IntKind × Int)
  | .raw (.int k n) => some (k, n)
  | _ => none

def mkB (b : Bool) : V := .raw (.bool b)

/-- equality of rows of scalars -/
def eqCells : List V → List V → Option Bool
  | [], [] => some true
  | .raw (.int j a) :: r, .raw (.int k b) :: s => if decide (j = k) then (eqCells r s).map fun x => (a == b) && x else none
  | .raw (.string a) :: r, .raw (.string b) :: s => (eqCells r s).map fun x => (a.toList == b.toList) && x
  | v :: r, u :: s => match v.bool?, u.bool? with
    | some a, some b => (eqCells r s).map fun x => (a == b) && x
    | _, _ => none
  | _, _ => none

def eqKind (a b : IntKind) : Bool := decide (a = b)

/-- are the cells of these kinds? -/
def fitK : List Kd → List V → Bool
  | [], [] => true
  | .i k :: r, .raw (.int k' _) :: s => eqKind k k' && fitK r s
  | .s :: r, .raw (.string _) :: s => fitK r s
  | .b :: r, v :: s => v.bool?.isSome && fitK r s
  | _, _ => false

/-- comparisons, for the kernel -/
def eqI : Int → Int → Bool
  | .ofNat m, .ofNat n => Nat.beq m n
  | .negSucc m, .negSucc n => Nat.beq m n
  | _, _ => false

def leI : Int → Int → Bool
  | .ofNat m, .ofNat n => Nat.ble m n
  | .negSucc m, .negSucc n => Nat.ble n m
  | .negSucc _, .ofNat _ => true
  | .ofNat _, .negSucc _ => false

def ltI (a b : Int) : Bool := !(leI b a)

theorem eqI_eq (a b : Int) : eqI a b = (a == b) := by
  rw [Bool.eq_iff_iff, beq_iff_eq]
  cases a <;> cases b <;> simp [eqI]
  all_goals omega

theorem leI_eq (a b : Int) : leI a b = decide (a ≤ b) := by
  rw [Bool.eq_iff_iff, decide_eq_true_eq]
  cases a <;> cases b <;> simp [leI] <;> omega

theorem ltI_eq (a b : Int) : ltI a b = decide (a < b) := by
  unfold ltI
  rw [leI_eq, Bool.eq_iff_iff]
  simp

def binI (op : BinOp) (k : IntKind) (a b : Int) : Option V :=
  match op with
  | .add => some (.raw (.int k (k.wrap (a + b))))
  | .sub => some (.raw (.int k (k.wrap (a - b))))
  | .mul => some (.raw (.int k (k.wrap (a * b))))
  | .eql => some (mkB (eqI a b))
  | .neq => some (mkB (!eqI a b))
  | .lss => some (mkB (ltI a b))
  | .leq => some (mkB (leI a b))
  | .gtr => some (mkB (ltI b a))
  | .geq => some (mkB (leI b a))
  | .and => some (.raw (.int k (k.wrap ((BitVec.ofInt k.bits a &&& BitVec.ofInt k.bits b).toNat))))
  | .or => some (.raw (.int k (k.wrap ((BitVec.ofInt k.bits a ||| BitVec.ofInt k.bits b).toNat))))
  | .xor => some (.raw (.int k (k.wrap ((BitVec.ofInt k.bits a ^^^ BitVec.ofInt k.bits b).toNat))))
  | _ => none

def binS (op : BinOp) (a b : ByteArray) : Option V :=
  let eq := a.toList == b.toList
  let lt := Op.bytesLess a.toList b.toList
  match op with
  | .eql => some (mkB eq)
  | .neq => some (mkB (!eq))
  | .lss => some (mkB lt)
  | .leq => some (mkB (lt || eq))
  | .gtr => some (mkB (!(lt || eq)))
  | .geq => some (mkB (!lt))
  | _ => none

def Out.val (dst : Option Nat) (kills : List Nat) (v : V) : Out :=
  .ok { tw := kills.map (fun t => (t, V.dead)) ++ (match dst with | some d => [(d, v)] | none => []) }

def Out.opt (dst : Option Nat) (kills : List Nat) : Option V → Out
  | some v => .val dst kills v
  | none => .fail

def nonNil : V → Bool
  | .ptr .. | .lptr .. | .eref .. | .map _ | .gptr .. => true
  | _ => false

/-- is it nil, as a pointer (false) or a map (true)? -/
def nilAs (m : Bool) : V → Option Bool
  | .raw (.pointer none) => if m then none else some true
  | .raw (.map none) => if m then some true else none
  | .ptr .. | .lptr .. | .eref .. | .gptr .. => if m then none else some false
  | .map _ => if m then some false else none
  | _ => none

def tfV : Bool → Bool → V
  | true, false | false, true => .tt
  | _, _ => .ff

def isNilC : Operand → Bool
  | .const (.slice none 0 0) => true
  | _ => false

def eqOut (E : Env) (dst : Option Nat) (neg : Bool) (xt : Nat) (x y : V) (ycnil : Bool) : Out :=
  match (E.ti xt).sh with
  | .bool => match x.bool?, y.bool? with
    | some a, some b => .val dst [] (mkB (if neg then a != b else a == b))
    | _, _ => .fail
  | .ptr => match nilAs false x, nilAs false y with
    | some b, some true => .val dst [] (tfV b neg)
    | _, _ => .fail
  | .map _ _ => match nilAs true x, nilAs true y with
    | some b, some true => .val dst [] (tfV b neg)
    | _, _ => .fail
  | .slice _ _ => match x with
    | .sl _ es r => if ycnil then (match r with | 3 => .val dst [] (tfV true neg) | _ => match es with | _ :: _ => .val dst [] (tfV false neg) | [] => .anyb False fun b => .val dst [] (mkB (if neg then !b else b))) else .fail
    | .gs .. => if ycnil then .val dst [] (tfV false neg) else .fail
    | _ => .fail
  | .struct _ | .arr _ _ _ => match x, y with
    | .agg a, .agg b => match (E.ti xt).eqo with
      | none => .fail
      | some ks => if fitK ks a && fitK ks b then .opt dst [] ((eqCells a b).map fun c => mkB (if neg then !c else c)) else .fail
    | _, _ => .fail
  | _ => .fail

def binOut (E : Env) (dst : Option Nat) (op : BinOp) (xt : Nat) (x y : V) (ycnil : Bool) : Out :=
  match x, y with
  | .raw (.int k a), .raw (.int k' b) =>
    match op with
    | .shl => .need (0 ≤ b) inferInstance (.val dst [] (.raw (.int k (k.wrap (a * 2 ^ (min b.toNat k.bits))))))
    | .shr => .need (0 ≤ b) inferInstance (.val dst [] (.raw (.int k (a.fdiv (2 ^ (min b.toNat k.bits))))))
    | .quo => if eqKind k k' then .need (b ≠ 0) inferInstance (.val dst [] (.raw (.int k (k.wrap (a.tdiv b))))) else .fail
    | .rem => if eqKind k k' then .need (b ≠ 0) inferInstance (.val dst [] (.raw (.int k (a.tmod b)))) else .fail
    | op => if eqKind k k' then .opt dst [] (binI op k a b) else .fail
  | .raw (.string a), .raw (.string b) =>
    match op with
    | .add => .need (a.size + b.size ≤ 4611686018427387904) inferInstance (.val dst [] (.raw (.string (a ++ b))))
    | op => .opt dst [] (binS op a b)
  | x, y =>
    match op with
    | .eql => eqOut E dst false xt x y ycnil
    | .neq => eqOut E dst true xt x y ycnil
    | _ => .fail

/-- nothing to append to hangs on it -/
def nilOk : V → Bool
  | .sl _ es r => r == 0 || r == 3 || (es.isEmpty && r == 1)
  | _ => true

def cellOk (v : V) : Bool := v.cell && nilOk v

def loadV (ti : TI) (cs : List V) (o : Nat) : Option V :=
  if ti.agg then
    (if o + ti.size ≤ cs.length ∧ ((cs.drop o).take ti.size).all (fun v => !v.isDead) then some (.agg (((cs.drop o).take ti.size).map V.strip)) else none)
  else match cs[o]? with
    | some v => if v.isDead then none else some v.strip
    | none => none

def setRange : List V → Nat → List V → List V
  | cs, _, [] => cs
  | cs, o, v :: r => setRange (cs.set o v) (o + 1) r

/-- may it be stored? -/
def storable : V → Bool
  | .agg cs => cs.all cellOk
  | v => v.cell

def storeV (ti : TI) (cs : List V) (o : Nat) (v : V) : Option (List V) :=
  if v.cells.length = ti.size ∧ o + ti.size ≤ cs.length ∧ storable v = true then some (setRange cs o v.cells) else none

def addOff (v : V) (n : Nat) : Option V :=
  match v with
  | .ptr b o => some (.ptr b (o + n))
  | .lptr s o => some (.lptr s (o + n))
  | .eref cs o => some (.eref cs (o + n))
  | .gptr g ver j => some (.gptr g ver (j + n))
  | _ => none

def fillV (place : Nat → Option (Nat × Nat)) : List V → List (Nat × V) → Option (List V)
  | cs, [] => some cs
  | cs, (i, v) :: r =>
    match place i with
    | none => none
    | some (off, size) => if v.cells.length = size ∧ off + size ≤ cs.length ∧ v.cells.all cellOk then fillV place (setRange cs off v.cells) r else none

def rowsOf (k : Nat) : Nat → List V → List (List V)
  | 0, _ => []
  | n + 1, cs => cs.take k :: rowsOf k n (cs.drop k)

def replCells (n : Nat) (z : List V) : List V := (List.replicate n z).flatten

def keyEq (a b : V) : Bool := match eqCells a.cells b.cells with | some c => c | none => false

def findK : List (V × V) → V → Option V
  | [], _ => none
  | (k, v) :: r, x => if keyEq x k then some v else findK r x

def idxK : List (V × V) → V → Nat → Option Nat
  | [], _, _ => none
  | (k, _) :: r, x, i => if keyEq x k then some i else idxK r x (i + 1)

def setK : List (V × V) → V → V → List (V × V)
  | [], x, v => [(x, v)]
  | (k, u) :: r, x, v => if keyEq x k then (x, v) :: r else (k, u) :: setK r x v

def delK : List (V × V) → V → List (V × V)
  | [], _ => []
  | (k, u) :: r, x => if keyEq x k then r else (k, u) :: delK r x

def zeroOf (E : Env) (t : Nat) : V := if (E.ti t).agg then .agg (E.ti t).zero else ((E.ti t).zero).headD .dead

def foldInt (mx : Bool) (k : IntKind) : Int → List V → Option V
  | acc, [] => some (.raw (.int k acc))
  | acc, .raw (.int k' y) :: r => if eqKind k k' then foldInt mx k (if mx then (if y > acc then y else acc) else (if y < acc then y else acc)) r else none
  | _, _ => none

def extInt (mx : Bool) : List V → Option V
  | .raw (.int k a) :: r => foldInt mx k a r
  | _ => none

def arOf (E : Env) (k : Nat) : Nat := if (E.ti k).agg then (E.ti k).size else 0

def goI (n : Int) : V := .raw (.int .i64 n)

end Go.Hx

/-
  Hx, part 3: operations, one by one.
-/
namespace Go.Hx
open Go

def oint? : Option V → Option (Option Int)
  | none => some none
  | some v => match v.int? with | some (_, n) => some (some n) | none => none

def Out.live (dst : Option Nat) (kills : List Nat) (v : V) : Out := if v.isDead then .fail else .val dst kills v

def outAlloc (dst : Option Nat) (kills : List Nat) (mode : Nat) (bxg : Nat → Option (List V)) (hp : Heap) (cs : List V) : Out :=
  match dst with
  | none => .fail
  | some d =>
    if cs.all cellOk then
      match mode with
      | 1 => .ok { tw := kills.map (fun t => (t, V.dead)) ++ [(d, .ptr hp.length 0)], hw := some (hp ++ [.cells cs]) }
      | _ => if (bxg d).isNone then .ok { tw := kills.map (fun t => (t, V.dead)) ++ [(d, .lptr d 0)], bw := some (d, cs) } else .fail
    else .fail

def outSlice (dst : Option Nat) (kills : List Nat) (mode : Nat) (bxg : Nat → Option (List V)) (hp : Heap) (k n : Nat) (es : List (List V)) : Out :=
  match dst with
  | none => .fail
  | some d =>
    match mode with
    | 0 => .val dst kills (.sl k es 1)
    | 3 => .ok { tw := kills.map (fun t => (t, V.dead)) ++ [(d, .gs hp.length 0 0 n)], hw := some (hp ++ [.vec k es.flatten 0]) }
    | 1 => .ok { tw := kills.map (fun t => (t, V.dead)) ++ [(d, .msl hp.length 0 k n n)], hw := some (hp ++ [.cells es.flatten]) }
    | _ => if (bxg d).isNone then .ok { tw := kills.map (fun t => (t, V.dead)) ++ [(d, .lmsl d 0 k n n)], bw := some (d, es.flatten) } else .fail

def outLoad (ti : TI) (dst : Option Nat) (kills : List Nat) (take : Bool) (bxg : Nat → Option (List V)) (hp : Heap) (a : V) : Out :=
  match a with
  | .eref cs o => if take then .fail else .opt dst kills (loadV ti cs o)
  | .lptr s o =>
    match bxg s with
    | none => .fail
    | some cs =>
      if take then
        (match cs[o]? with
         | some v => if v.isDead || ti.agg then .fail else .ok { tw := kills.map (fun t => (t, V.dead)) ++ (match dst with | some d => [(d, v)] | none => []), bw := some (s, cs.set o .dead) }
         | none => .fail)
      else .opt dst kills (loadV ti cs o)
  | .ptr b o =>
    match hp[b]? with
    | some (.cells cs) =>
      if take then
        (match cs[o]? with
         | some v => if v.isDead || ti.agg then .fail else .ok { tw := kills.map (fun t => (t, V.dead)) ++ (match dst with | some d => [(d, v)] | none => []), hw := some (hp.set b (.cells (cs.set o .dead))) }
         | none => .fail)
      else .opt dst kills (loadV ti cs o)
    | _ => .fail
  | .gptr g ver j =>
    match hp[g]? with
    | some (.vec _ cs ver') => if ver = ver' ∧ take = false then .opt dst kills (loadV ti cs j) else .fail
    | _ => .fail
  | _ => .fail

def outStore (ti : TI) (kills : List Nat) (bxg : Nat → Option (List V)) (hp : Heap) (a v : V) : Out :=
  match a with
  | .lptr s o =>
    match bxg s with
    | none => .fail
    | some cs => match storeV ti cs o v with
      | some cs' => .ok { tw := kills.map (fun t => (t, V.dead)), bw := some (s, cs') }
      | none => .fail
  | .ptr b o =>
    match hp[b]? with
    | some (.cells cs) => match storeV ti cs o v with
      | some cs' => .ok { tw := kills.map (fun t => (t, V.dead)), hw := some (hp.set b (.cells cs')) }
      | none => .fail
    | _ => .fail
  | .gptr g ver j =>
    match hp[g]? with
    | some (.vec k cs ver') => if ver = ver' ∧ v.cells.all cellOk = true then
        (match storeV ti cs j v with
         | some cs' => .ok { tw := kills.map (fun t => (t, V.dead)), hw := some (hp.set g (.vec k cs' ver)) }
         | none => .fail) else .fail
    | _ => .fail
  | _ => .fail

/-- s[l:h] of a string or a slice, h at most its length (or its known capacity) -/
def outSub (sh : Sh) (dst : Option Nat) (kills : List Nat) (bxg : Nat → Option (List V)) (hp : Heap) (x : V) (lo hi : Option Int) : Out :=
  match sh, x with
  | .str, .raw (.string s) =>
    let l := lo.getD 0
    let h := hi.getD s.size
    .need (0 ≤ l ∧ l ≤ h ∧ h ≤ s.size) inferInstance (.val dst kills (.raw (.string (s.extract l.toNat h.toNat))))
  | .slice _ k', .sl k es r =>
    let l := lo.getD 0
    let h := hi.getD es.length
    if k = k' then .need (0 ≤ l ∧ l ≤ h ∧ h ≤ es.length) inferInstance (.val dst kills (.sl k ((es.take h.toNat).drop l.toNat) (if hi.isNone && r % 3 != 0 then 2 else 0))) else .fail
  | .slice _ k', .msl b o k n c =>
    let l := lo.getD 0
    let h := hi.getD n
    if k = k' then .need (0 ≤ l ∧ l ≤ h ∧ h ≤ c ∧ (l = 0 ∨ l < c)) inferInstance (.val dst kills (.msl b (o + l.toNat * k) k (h.toNat - l.toNat) (c - l.toNat))) else .fail
  | .slice _ k', .lmsl s o k n c =>
    let l := lo.getD 0
    let h := hi.getD n
    if k = k' then .need (0 ≤ l ∧ l ≤ h ∧ h ≤ c ∧ (l = 0 ∨ l < c)) inferInstance (.val dst kills (.lmsl s (o + l.toNat * k) k (h.toNat - l.toNat) (c - l.toNat))) else .fail
  | .arr n _ k, .lptr s o =>
    let l := lo.getD 0
    let h := hi.getD n
    match bxg s with
    | some cs => if o + n * k ≤ cs.length then .need (0 ≤ l ∧ l ≤ h ∧ h ≤ n ∧ (l = 0 ∨ l < n)) inferInstance (.val dst kills (.lmsl s (o + l.toNat * k) k (h.toNat - l.toNat) (n - l.toNat))) else .fail
    | none => .fail
  | .arr n _ k, .ptr b o =>
    let l := lo.getD 0
    let h := hi.getD n
    match hp[b]? with
    | some (.cells cs) => if o + n * k ≤ cs.length then .need (0 ≤ l ∧ l ≤ h ∧ h ≤ n ∧ (l = 0 ∨ l < n)) inferInstance (.val dst kills (.msl b (o + l.toNat * k) k (h.toNat - l.toNat) (n - l.toNat))) else .fail
    | _ => .fail
  | .slice _ k', .gs g ver o n =>
    let l := lo.getD 0
    let h := hi.getD n
    match hp[g]? with
    | some (.vec k cs ver') => if k = k' ∧ ver = ver' then .need (0 ≤ l ∧ l ≤ h ∧ (o + h.toNat) * k ≤ cs.length ∧ 0 < k) inferInstance (.val dst kills (if l.toNat ≠ 0 ∧ l.toNat = h.toNat then .sl k [] 0 else .gs g ver (o + l.toNat) (h.toNat - l.toNat))) else .fail
    | _ => .fail
  | _, _ => .fail

/-- s[l:h:m], which nobody uses -/
def outSub3 (sh : Sh) (dst : Option Nat) (kills : List Nat) (x : V) (lo hi mx : Option Int) : Out :=
  match sh, x, lo, hi, mx with
  | .slice _ _, .sl _ es _, some l, some h, some m => .need (0 ≤ l ∧ l ≤ h ∧ h ≤ m ∧ m ≤ es.length) inferInstance (.val dst kills .dead)
  | .slice _ _, .gs _ _ _ n, some l, some h, some m => .need (0 ≤ l ∧ l ≤ h ∧ h ≤ m ∧ m ≤ n) inferInstance (.val dst kills .dead)
  | _, _, _, _, _ => .fail

def toBytes : List V → Option (List UInt8)
  | [] => some []
  | .raw (.int .u8 n) :: r => (toBytes r).map fun l => UInt8.ofNat n.toNat :: l
  | _ => none

def bytesV (cs : List V) : Option V := (toBytes cs).map fun l => .raw (.string ⟨l.toArray⟩)

def placeS (fs : List (Nat × Nat × Nat)) (i : Nat) : Option (Nat × Nat) := (fs[i]?).map fun f => (f.1, f.2.1)

def placeA (k i : Nat) : Option (Nat × Nat) := some (i * k, k)

def fieldT (fs : List (Nat × Nat × Nat)) (i : Nat) : Nat := ((fs[i]?).map fun f => f.2.2).getD 0

def partsV (ev : Nat → Operand → V) (kf : Nat → Nat) (parts : List (Nat × Operand)) : List (Nat × V) := parts.map fun p => (p.1, (ev (kf p.1) p.2).strip)

def outLookup (dst : Option Nat) (kills : List Nat) (zero : V) (commaOk : Bool) (ar : Nat) (es : List (V × V)) (k : V) : Out :=
  if keyOk ar k then
    .find (findK es k) (fun v => .val dst kills (if commaOk then .tup [v.strip, .tt] else v.strip))
      (.val dst kills (if commaOk then .tup [zero, .ff] else zero))
  else .fail

/-- may it lie in a map? -/
def mval : V → Bool
  | .lptr .. | .lmsl .. | .dead | .stamp .. | .ment .. | .tup _ => false
  | _ => true

/-- no stamp of a map is held -/
def noSt (tm : List V) : Bool := tm.all fun v => match v with | .stamp .. | .ment .. => false | _ => true

/-- what is appended -/
def srcV (sh : Sh) (kk : Nat) (hp : Heap) : V → Option (List (List V))
  | .sl k' es' _ => (match sh with | .slice _ _ => if k' = kk then some es' else none | _ => none)
  | .raw (.string s) => (match sh with | .str => if kk = 1 then some (s.data.toList.map fun c => [.raw (.int .u8 c.toNat)]) else none | _ => none)
  | .gs g ver o n => (match sh, hp[g]? with
    | .slice _ _, some (.vec k cs ver') => if k = kk ∧ ver = ver' ∧ (o + n) * k ≤ cs.length then some (rowsOf k n (cs.drop (o * k))) else none
    | _, _ => none)
  | _ => none

/-- append -/
def appOut (E : Env) (dst : Option Nat) (kills : List Nat) (mode : Nat) (t0 : Nat) (ats : List Nat) (vs : List V) (hp : Heap) : Out :=
  match dst, (E.ti t0).sh, ats, vs with
  | some d, .slice elem kk, [_, t1], [x, y] =>
    if (E.ti elem).ok = true ∧ (E.ti elem).bytes ≠ 0 then
      match srcV (E.ti t1).sh kk hp y with
      | none => .fail
      | some es' =>
        match x with
        | .sl k es r =>
          if k = kk then
            match mode with
            | 3 => if r = 3 ∧ es'.isEmpty = false ∧ es'.flatten.all cellOk = true then
                .need (es'.length * (E.ti elem).bytes ≤ 17592186044416) inferInstance (.ok { tw := kills.map (fun t => (t, V.dead)) ++ [(d, .gs hp.length 0 0 es'.length)], hw := some (hp ++ [.vec kk es'.flatten 0]) })
              else .fail
            | _ =>
              match r with
              | 3 => (match es' with
                | [] => .val (some d) kills (.sl kk [] 3)
                | e :: es' => .need ((es'.length + 1) * (E.ti elem).bytes ≤ 17592186044416) inferInstance (.val (some d) kills (.sl kk (e :: es') 1)))
              | r => if 1 ≤ r % 3 then .need ((es.length + es'.length) * (E.ti elem).bytes ≤ 17592186044416) inferInstance (.val (some d) kills (.sl kk (es ++ es') r)) else .fail
          else .fail
        | .gs g ver o n =>
          (match hp[g]? with
           | some (.vec k cs ver') =>
             if k = kk ∧ ver = ver' ∧ es'.flatten.all cellOk = true ∧ 0 < k then
               if (o + n + es'.length) * k ≤ cs.length then
                 .ok { tw := kills.map (fun t => (t, V.dead)) ++ [(d, .gs g ver o (n + es'.length))], hw := some (hp.set g (.vec k (setRange cs ((o + n) * k) es'.flatten) ver)) }
               else if o = 0 ∧ n * k = cs.length then
                 .need ((n + es'.length) * (E.ti elem).bytes ≤ 17592186044416) inferInstance (.ok { tw := kills.map (fun t => (t, V.dead)) ++ [(d, .gs g (ver + 1) 0 (n + es'.length))], hw := some (hp.set g (.vec k (cs ++ es'.flatten) (ver + 1))) })
               else .fail
             else .fail
           | _ => .fail)
        | _ => .fail
    else .fail
  | _, _, _, _ => .fail

def builtinOut (E : Env) (dst : Option Nat) (kills : List Nat) (mode : Nat) (b : Builtin) (t0 : Nat) (ats : List Nat) (vs : List V) (tm : List V) (hp : Heap) : Out :=
  match b with
  | .len =>
    (match (E.ti t0).sh, vs with
     | .slice _ _, [.sl _ es _] => .val dst kills (goI es.length)
     | .slice _ _, [.msl _ _ _ n _] => .val dst kills (goI n)
     | .slice _ _, [.gs _ _ _ n] => .val dst kills (goI n)
     | .slice _ _, [.lmsl _ _ _ n _] => .val dst kills (goI n)
     | .str, [.raw (.string s)] => .val dst kills (goI s.size)
     | .map _ _, [.map r] => (match hp[r]? with | some (.map _ es) => .val dst kills (goI es.length) | _ => .fail)
     | .arr n _ _, [_] => .val dst kills (goI n)
     | _, _ => .fail)
  | .append => appOut E dst kills mode t0 ats vs hp
  | .max => .opt dst kills (extInt true vs)
  | .min => .opt dst kills (extInt false vs)
  | .delete =>
    (match (E.ti t0).sh, vs with
     | .map kt _, [.map r, k] => (match hp[r]? with
       | some (.map ar es) => if ar = arOf E kt ∧ keyOk ar k.strip = true ∧ noSt tm = true then .ok { tw := kills.map (fun t => (t, V.dead)) ++ (match dst with | some d => [(d, V.tup [])] | none => []), hw := some (hp.set r (.map ar (delK es k.strip))) } else .fail
       | _ => .fail)
     | _, _ => .fail)
  | .clear =>
    (match (E.ti t0).sh, vs with
     | .slice _ _, [.sl _ [] _] => .ok { tw := kills.map (fun t => (t, V.dead)) ++ (match dst with | some d => [(d, V.tup [])] | none => []) }
     | .slice elem kk, [.gs g ver o n] =>
       (match hp[g]? with
        | some (.vec k cs ver') =>
          if k = kk ∧ ver = ver' ∧ (E.ti elem).ok = true ∧ (o + n) * k ≤ cs.length ∧ 0 < n then
            .ok { tw := kills.map (fun t => (t, V.dead)) ++ (match dst with | some d => [(d, V.tup [])] | none => []), hw := some (hp.set g (.vec k (setRange cs (o * k) (List.replicate n (E.ti elem).zero).flatten) ver)) }
          else .fail
        | _ => .fail)
     | _, _ => .fail)
  | _ => .fail

/-- all operations but calls of functions -/
def stepOut [Glob] (E : Env) (oa : OA) (o : Oper) (tm : List V) (bxg : Nat → Option (List V)) (hp : Heap) : Out :=
  let kills := oa.take
  let dst := o.dst
  let ev := evO tm oa.take
  match o.op with
  | .move x | .assign x => .live dst kills (ev (E.kOf o.type) x)
  | .pick c a b =>
    match ev 0 c with
    | .tt => .live dst kills (ev 0 a).strip
    | .ff => .live dst kills (ev 0 b).strip
    | .raw (.bool q) => .pick q (.live dst kills (ev 0 a).strip) (.live dst kills (ev 0 b).strip)
    | _ => .fail
  | .alloc t => if (E.ti t).ok then outAlloc dst kills oa.mode bxg hp (E.ti t).zero else .fail
  | .box _ x => outAlloc dst kills oa.mode bxg hp (ev 0 x).strip.cells
  | .build t parts =>
    match (E.ti t).sh with
    | .struct fs => .opt dst kills ((fillV (placeS fs) (E.ti t).zero (partsV ev (fun i => E.kOf (fieldT fs i)) parts.toList)).map .agg)
    | .arr _ elem k => .opt dst kills ((fillV (placeA k) (E.ti t).zero (partsV ev (fun _ => E.kOf elem) parts.toList)).map .agg)
    | _ => .fail
  | .buildSlice t n parts =>
    match (E.ti t).sh with
    | .slice elem k =>
      match fillV (placeA k) (replCells n (E.ti elem).zero) (partsV ev (fun _ => E.kOf elem) parts.toList) with
      | some cs => if n * k ≤ 1048576 ∧ (E.ti elem).ok = true then outSlice dst kills oa.mode bxg hp k n (rowsOf k n cs) else .fail
      | none => .fail
    | _ => .fail
  | .load t a => if (E.ti t).ok then outLoad (E.ti t) dst kills (oa.mode == 1) bxg hp (ev 0 a) else .fail
  | .store t a x => if dst.isSome then .fail else if (E.ti t).ok then outStore (E.ti t) kills bxg hp (ev 0 a) (ev (E.kOf t) x) else .fail
  | .nilCheck x => let v := ev 0 x; if nonNil v then .val dst kills v else .fail
  | .binOp op t x y _ => if kills.isEmpty then binOut E dst op t (ev (E.kOf t) x) (ev (E.kOf t) y) (isNilC y) else .fail
  | .unOp op _ x =>
    match op, ev 0 x with
    | .not, .tt => .val dst kills .ff
    | .not, .ff => .val dst kills .tt
    | .not, .raw (.bool b) => .val dst kills (mkB (!b))
    | .neg, .raw (.int k n) => .val dst kills (.raw (.int k (k.wrap (0 - n))))
    | _, _ => .fail
  | .convert src dt x =>
    (match (E.ti src).sh, (E.ti dt).sh, ev 0 x with
    | .int _, .int k, .raw (.int _ n) => .val dst kills (.raw (.int k (k.wrap n)))
    | .str, .str, .raw (.string s) => .val dst kills (.raw (.string s))
    | .slice e _, .str, .sl k es _ =>
      (match (E.ti e).sh with
       | .int .u8 => if k = 1 then .opt dst kills (bytesV es.flatten) else .fail
       | _ => .fail)
    | .slice e _, .str, .msl b q k n _ =>
      (match (E.ti e).sh, hp[b]? with
       | .int .u8, some (.cells cs) => if k = 1 ∧ q + n ≤ cs.length then .opt dst kills (bytesV ((cs.drop q).take n)) else .fail
       | _, _ => .fail)
    | .slice e _, .str, .lmsl s q k n _ =>
      (match (E.ti e).sh, bxg s with
       | .int .u8, some cs => if k = 1 ∧ q + n ≤ cs.length then .opt dst kills (bytesV ((cs.drop q).take n)) else .fail
       | _, _ => .fail)
    | _, _, _ => .fail)
  | .makeFunc (.func f) first captured =>
    let fs := first.toList.map fun x => (ev 0 x).strip
    let vs := captured.toList.map fun x => (ev 0 x).strip
    if fs.all V.cell ∧ vs.all V.cell then .val dst kills (.clo f fs vs) else .fail
  | .makeMap t none =>
    (match dst with
     | some d => .ok { tw := kills.map (fun t => (t, V.dead)) ++ [(d, .map hp.length)], hw := some (hp ++ [.map (match (E.ti t).sh with | .map kt _ => arOf E kt | _ => 0) []]) }
     | none => .fail)
  | .makeSlice t l c =>
    (match (E.ti t).sh, (ev 0 l).int?, (ev 0 c).int? with
     | .slice elem k, some (_, n), some (_, m) =>
       if (E.ti elem).ok = true ∧ (E.ti elem).size = k then
         match oa.mode, dst with
         | 4, some d => .need (0 ≤ n ∧ n ≤ m ∧ m ≤ 1099511627776 ∧ m * (E.ti elem).bytes ≤ 1099511627776) inferInstance (.val (some d) kills (.sl k (List.replicate n.toNat (E.ti elem).zero) 2))
         | 5, some d => .need (0 ≤ n ∧ n ≤ m ∧ m ≤ 1099511627776 ∧ m * (E.ti elem).bytes ≤ 1099511627776) inferInstance (.ok { tw := kills.map (fun t => (t, V.dead)) ++ [(d, .gs hp.length 0 0 n.toNat)], hw := some (hp ++ [.vec k (List.replicate n.toNat (E.ti elem).zero).flatten 0]) })
         | _, _ => .need (0 ≤ n ∧ n = m ∧ n ≤ 1099511627776 ∧ n * (E.ti elem).bytes ≤ 1099511627776) inferInstance (outSlice dst kills oa.mode bxg hp k n.toNat (List.replicate n.toNat (E.ti elem).zero)) else .fail
     | _, _, _ => .fail)
  | .slice t x lo hi none =>
    (match oint? (lo.map (ev 0)), oint? (hi.map (ev 0)) with
     | some l, some h => outSub (E.ti t).sh dst kills bxg hp (ev 0 x) l h
     | _, _ => .fail)
  | .slice t x lo hi (some mx) =>
    (match oint? (lo.map (ev 0)), oint? (hi.map (ev 0)), oint? (some (ev 0 mx)) with
     | some l, some h, some m => outSub3 (E.ti t).sh dst kills (ev 0 x) l h m
     | _, _, _ => .fail)
  | .fieldAddr t x f =>
    (match (E.ti t).sh with
     | .struct fs => (match fs[f]? with
       | some (off, size, _) => if size = 0 then .fail else .opt dst kills (addOff (ev 0 x) off)
       | none => .fail)
     | _ => .fail)
  | .field t x f =>
    (match (E.ti t).sh, ev 0 x with
     | .struct fs, .agg cs => (match fs[f]? with
       | some (off, _, ft) => if (E.ti ft).ok then .opt dst kills (loadV (E.ti ft) cs off) else .fail
       | none => .fail)
     | _, _ => .fail)
  | .indexAddr t x i =>
    (match (E.ti t).sh, ev 0 x, (ev 0 i).int? with
     | .slice _ k, .sl k' es _, some (_, n) => if k = k' then .need (0 ≤ n ∧ n < es.length) inferInstance (.elem es n.toNat fun e => .val dst kills (.eref e 0)) else .fail
     | .slice _ k, .gs g ver o m, some (_, n) =>
       (match hp[g]? with
        | some (.vec k' _ ver') => if k = k' ∧ ver = ver' then .need (0 ≤ n ∧ n < m) inferInstance (.val dst kills (.gptr g ver ((o + n.toNat) * k))) else .fail
        | _ => .fail)
     | .slice _ k, .msl b o k' m _, some (_, n) => if k = k' then .need (0 ≤ n ∧ n < m) inferInstance (.val dst kills (.ptr b (o + n.toNat * k))) else .fail
     | .slice _ k, .lmsl s o k' m _, some (_, n) => if k = k' then .need (0 ≤ n ∧ n < m) inferInstance (.val dst kills (.lptr s (o + n.toNat * k))) else .fail
     | .arr len _ k, v, some (_, n) => .need (0 ≤ n ∧ n < len) inferInstance (.opt dst kills (addOff v (n.toNat * k)))
     | _, _, _ => .fail)
  | .index t x i =>
    (match (E.ti t).sh, ev 0 x, (ev 0 i).int? with
     | .str, .raw (.string s), some (_, n) => .need (0 ≤ n ∧ n < s.size) inferInstance (.byte s n.toNat fun c => .val dst kills (.raw (.int .u8 c.toNat)))
     | .arr len elem 1, .agg cs, some (_, n) => if (E.ti elem).agg ∨ !(E.ti elem).ok then .fail else .need (0 ≤ n ∧ n < len ∧ n < cs.length) inferInstance (.cell cs n.toNat fun v => .live dst kills v.strip)
     | _, _, _ => .fail)
  | .lookup t m k ok =>
    (match (E.ti t).sh, ev 0 m with
     | .map kt elem, .map r => (match hp[r]? with
       | some (.map ar es) => if ar = arOf E kt ∧ (E.ti elem).ok then outLookup dst kills (zeroOf E elem) ok ar es (ev 0 k).strip else .fail
       | _ => .fail)
     | _, _ => .fail)
  | .mapUpdate t m k v => if dst.isSome then .fail else
    (match (E.ti t).sh, ev 0 m with
     | .map kt _, .map r => (match hp[r]? with
       | some (.map ar es) =>
         let key := (ev 0 k).strip
         let val := (ev 0 v).strip
         if ar = arOf E kt ∧ keyOk ar key ∧ mval val then .ok { tw := kills.map (fun t => (t, V.dead)), hw := some (hp.set r (.map ar (setK es key val))) } else .fail
       | _ => .fail)
     | _, _ => .fail)
  | .mapEntry t m k =>
    (match (E.ti t).sh, ev 0 m, dst with
     | .map kt elem, .map r, some d => (match hp[r]? with
       | some (.map ar es) =>
         let key := (ev 0 k).strip
         if ar = arOf E kt ∧ keyOk ar key ∧ (E.ti elem).ok then
           match idxK es key 0 with
           | some i => .find (findK es key) (fun v => .ok { tw := kills.map (fun t => (t, V.dead)) ++ [(d, V.ment v.strip r i)] }) .fail
           | none => .ok { tw := kills.map (fun t => (t, V.dead)) ++ [(d, V.ment (zeroOf E elem) r es.length)], hw := some (hp.set r (.map ar (es ++ [(key, zeroOf E elem)]))) }
         else .fail
       | _ => .fail)
     | _, _, _ => .fail)
  | .entryStore _ m s v => if dst.isSome then .fail else
    (match ev 0 m, ev 0 s with
     | .map r, .stamp r' i => (match hp[r]? with
       | some (.map ar es) => if r = r' ∧ mval (ev 0 v).strip then
           (match es[i]? with
            | some (k, _) => .ok { tw := kills.map (fun t => (t, V.dead)), hw := some (hp.set r (.map ar (es.set i (k, (ev 0 v).strip)))) }
            | none => .fail) else .fail
       | _ => .fail)
     | _, _ => .fail)
  | .extract x i =>
    (match ev 0 x with
     | .tup vs => (match vs[i]? with | some v => .live dst kills v.strip | none => .fail)
     | .ment v r j => (match i with | 0 => .live dst kills v.strip | 1 => .val dst kills (.stamp r j) | _ => .fail)
     | _ => .fail)
  | .call { callee := .builtin b, args := args, argTypes := ats } =>
    (match ats[0]? with
     | some t0 => builtinOut E dst kills oa.mode b t0 ats.toList (args.toList.map (ev (E.kOf t0))) tm hp
     | none => .fail)
  | .range t x =>
    (match (E.ti t).sh, ev 0 x, dst with
     | .map _ _, .map r, some d => (match hp[r]? with
       | some (.map _ []) => .ok { tw := kills.map (fun t => (t, V.dead)) ++ [(d, .eit hp.length)], hw := some (hp ++ [.eit r]) }
       | _ => .fail)
     | _, _, _ => .fail)
  | .next x false =>
    (match ev 0 x with
     | .eit b => (match hp[b]? with
       | some (.eit m) => (match hp[m]? with
         | some (.map _ []) => .val dst kills (.tup [.ff])
         | _ => .fail)
       | _ => .fail)
     | _ => .fail)
  | _ => .fail

end Go.Hx

/-
  Hx, part 4: how the relation between abstract states and the model's memory is kept.
-/
namespace Go.Hx
open Go

theorem mkC_le {φ φ' : Phi} {nb nb' : Nat} {perm perm' : Perm} {M M' : Mem} (hφ : ∀ b, b < nb → φ' b = φ b) (hnb : nb ≤ nb')
    (hrd : ∀ r o v, imm perm r o = true → cellAt M r o = some v → imm perm' r o = true ∧ cellAt M' r o = some v)
    (hsz : ∀ r, blockSize M r ≤ blockSize M' r) (hhd : ∀ g v x, φ.hd g v = some x → φ'.hd g v = some x := by exact fun _ _ _ h => h) : (mkC φ nb perm M).le (mkC φ' nb' perm' M') :=
  ⟨hφ, hnb, hhd, fun r o v h => by
    simp only [mkC] at h ⊢
    by_cases hi : imm perm r o = true
    · simp only [hi, if_true] at h
      obtain ⟨h1, h2⟩ := hrd r o v hi h
      simp [h1, h2]
    · simp [hi] at h, fun b _ => hsz _⟩

/-- what a stretch of a run leaves as it was -/
structure Evo (M0 : Mem) (p0 : Perm) (M : Mem) (p : Perm) : Prop where
  size : M0.size ≤ M.size
  keep : ∀ r, r < M0.size → (p0 r = none ∨ ∃ lo, p0 r = some (.other, lo)) → M[r]? = M0[r]? ∧ p r = p0 r
  imm : ∀ r o v, imm p0 r o = true → cellAt M0 r o = some v → imm p r o = true ∧ cellAt M r o = some v
  bs : ∀ r, blockSize M0 r ≤ blockSize M r

theorem Evo.refl (M : Mem) (p : Perm) : Evo M p M p := ⟨Nat.le_refl _, fun _ _ _ => ⟨rfl, rfl⟩, fun _ _ _ h h' => ⟨h, h'⟩, fun _ => Nat.le_refl _⟩

theorem Evo.trans {M0 M1 M2 : Mem} {p0 p1 p2 : Perm} (h : Evo M0 p0 M1 p1) (k : Evo M1 p1 M2 p2) : Evo M0 p0 M2 p2 :=
  ⟨Nat.le_trans h.size k.size, fun r hr hp => by
    obtain ⟨h1, h2⟩ := h.keep r hr hp
    obtain ⟨k1, k2⟩ := k.keep r (Nat.lt_of_lt_of_le hr h.size) (by rw [h2]; exact hp)
    exact ⟨k1.trans h1, k2.trans h2⟩, fun r o v hi hc => by
    obtain ⟨h1, h2⟩ := h.imm r o v hi hc
    exact k.imm r o v h1 h2, fun r => Nat.le_trans (h.bs r) (k.bs r)⟩

theorem Evo.le {M M' : Mem} {p p' : Perm} (h : Evo M p M' p') {φ φ' : Phi} {nb nb' : Nat} (hφ : ∀ b, b < nb → φ' b = φ b) (hnb : nb ≤ nb') (hhd : ∀ g v x, φ.hd g v = some x → φ'.hd g v = some x := by exact fun _ _ _ h => h) :
    (mkC φ nb p M).le (mkC φ' nb' p' M') := mkC_le hφ hnb h.imm h.bs hhd

theorem RowR.mono {C C' : Ctx} {perm perm' : Perm} {M M' : Mem} {p : Nat → Pos} {cs : List V} {arr : Array Value} (hC : C.le C')
    (hR : ∀ i v x, cs[i]? = some v → Rt perm M (p i) v x → Rt perm' M' (p i) v x) (h : RowR C perm M p cs arr) : RowR C' perm' M' p cs arr :=
  ⟨h.1, fun i v hv => by
    obtain ⟨x, hx, hc⟩ := h.2 i v hv
    refine ⟨x, hx, ?_⟩
    rcases hc with hd | ⟨h1, h2, h3⟩
    · exact .inl hd
    · exact .inr ⟨h1, h2.mono hC, hR i v x hv h3⟩⟩

theorem MapR.mono {C C' : Ctx} {ar : Nat} {es : List (V × V)} {ents : Array MapEntry} {clock : Nat} (hC : C.le C') (h : MapR C ar es ents clock) : MapR C' ar es ents clock :=
  ⟨h.size, fun i k v hi => by
    obtain ⟨e, h1, h2, h3, h4, h5⟩ := h.ent i k v hi
    exact ⟨e, h1, h2, h3.mono hC, h4.mono hC, h5⟩, h.born⟩

/-- a block of a holder, and what another place holds -/
theorem Rt.other {perm perm' : Perm} {M M' : Mem} {r0 : Nat} {h0 : Holder} {lo0 : Nat} {p : Pos} {v : V} {x : Value}
    (hp : perm r0 = some (h0, lo0)) (hne : h0 ≠ .sp p) (ho : ∀ r, r ≠ r0 → M'[r]? = M[r]? ∧ perm' r = perm r) (h : Rt perm M p v x) : Rt perm' M' p v x := by
  unfold Rt at h ⊢
  split
  · rename_i k es r a n cap
    intro h1 h2
    obtain ⟨g1, c, elem, g2, g3⟩ := h h1 h2
    have : a.block ≠ r0 := fun e => by rw [e, hp] at g1; simp at g1; exact hne g1.1
    obtain ⟨e1, e2⟩ := ho _ this
    exact ⟨by rw [e2]; exact g1, c, elem, by rw [e1]; exact g2, g3⟩
  · trivial

theorem Rt.grow {perm perm' : Perm} {M M' : Mem} {p : Pos} {v : V} {x : Value}
    (ho : ∀ r, r < M.size → M'[r]? = M[r]? ∧ perm' r = perm r) (h : Rt perm M p v x) : Rt perm' M' p v x := by
  unfold Rt at h ⊢
  split
  · rename_i k es r a n cap
    intro h1 h2
    obtain ⟨g1, c, elem, g2, g3⟩ := h h1 h2
    have : a.block < M.size := by
      rcases Nat.lt_or_ge a.block M.size with hlt | hge
      · exact hlt
      · rw [Array.getElem?_eq_none hge] at g2; cases g2
    obtain ⟨e1, e2⟩ := ho _ this
    exact ⟨by rw [e2]; exact g1, c, elem, by rw [e1]; exact g2, g3⟩
  · trivial

def renP (perm : Perm) (q p1 : Pos) : Perm := fun r =>
  match perm r with
  | some (.sp x, lo) => if x = q then some (.sp p1, lo) else some (.sp x, lo)
  | o => o

theorem renP_imm (perm : Perm) (q p1 : Pos) (r o : Nat) : imm (renP perm q p1) r o = imm perm r o := by
  have key : (renP perm q p1 r).map (·.2) = (perm r).map (·.2) := by
    unfold renP
    split
    · split <;> simp_all
    · rfl
  unfold imm
  cases h1 : renP perm q p1 r with
  | none => cases h2 : perm r with
    | none => rfl
    | some y => rw [h1, h2] at key; cases key
  | some x => cases h2 : perm r with
    | none => rw [h1, h2] at key; cases key
    | some y => rw [h1, h2] at key; simp at key; simp [key]

theorem renP_ns {perm : Perm} {q p1 : Pos} {r lo : Nat} {h : Holder} (hh : perm r = some (h, lo)) (hn : ∀ x, h ≠ .sp x) : renP perm q p1 r = some (h, lo) := by
  simp only [renP, hh]
  cases h with
  | sp x => exact absurd rfl (hn x)
  | _ => rfl

theorem renP_none {perm : Perm} {q p1 : Pos} {r : Nat} (hh : perm r = none) : renP perm q p1 r = none := by
  unfold renP; rw [hh]

theorem Rt.ren_same {perm : Perm} {M : Mem} {q p1 : Pos} {v : V} {x : Value} (h : Rt perm M q v x) : Rt (renP perm q p1) M p1 v x := by
  unfold Rt at h ⊢
  split
  · intro h1 h2
    obtain ⟨g1, g2⟩ := h h1 h2
    exact ⟨by unfold renP; rw [g1]; simp, g2⟩
  · trivial

theorem Rt.ren_other {perm : Perm} {M : Mem} {p q p1 : Pos} {v : V} {x : Value} (hpq : p ≠ q) (h : Rt perm M p v x) : Rt (renP perm q p1) M p v x := by
  unfold Rt at h ⊢
  split
  · intro h1 h2
    obtain ⟨g1, g2⟩ := h h1 h2
    exact ⟨by unfold renP; rw [g1]; simp [hpq], g2⟩
  · trivial

theorem Rt.dead {perm : Perm} {M : Mem} {p : Pos} {x : Value} : Rt perm M p .dead x := by unfold Rt; split <;> trivial

theorem Evo.ren {perm : Perm} (M : Mem) (q p1 : Pos) : Evo M perm M (renP perm q p1) :=
  ⟨Nat.le_refl _, fun r _ hp => ⟨rfl, by
    rcases hp with h | ⟨lo, h⟩
    · rw [renP_none h, h]
    · rw [renP_ns h (by intro x; simp), h]⟩, fun r o v h h' => ⟨by rw [renP_imm]; exact h, h'⟩, fun _ => Nat.le_refl _⟩

theorem VecR.mono {C C' : Ctx} {cs : List V} {arr : Array Value} {off : Nat} (hC : C.le C') (h : VecR C cs arr off) : VecR C' cs arr off :=
  ⟨fun i v hv => by
    obtain ⟨h1, x, h2, h3, h4⟩ := h.each i v hv
    exact ⟨h1, x, h2, h3.mono hC, h4⟩⟩

/-- the laid tables stay -/
def GlOK [Glob] (perm : Perm) (M : Mem) : Prop := ∀ (g i : Nat) (v : V), (Glob.gl g)[i]? = some v → ∃ x, v = .raw x ∧ one x = true ∧ imm perm g i = true ∧ cellAt M g i = some x

theorem GlOK.evo [Glob] {perm perm' : Perm} {M M' : Mem} (h : GlOK perm M) (hE : Evo M perm M' perm') : GlOK perm' M' := fun g i v hv => by
  obtain ⟨x, h1, h2, h3, h4⟩ := h g i v hv
  obtain ⟨h5, h6⟩ := hE.imm g i x h3 h4
  exact ⟨x, h1, h2, h5, h6⟩

/-- nothing lies at this place -/
def St.deadAt (S : St) : Pos → Prop
  | .t t => ∀ v, S.tm[t]? = some v → v = .dead
  | .b s i => ∀ cs v, S.box s = some cs → cs[i]? = some v → v = .dead
  | .h b i => ∀ cs v, S.hp[b]? = some (.cells cs) → cs[i]? = some v → v = .dead
  | .ret => True

theorem Rt.ren_any {perm : Perm} {M : Mem} {p q p1 : Pos} {v : V} {x : Value} (hd : p = q → v = .dead) (h : Rt perm M p v x) : Rt (renP perm q p1) M p v x := by
  by_cases hpq : p = q
  · rw [hd hpq]; exact .dead
  · exact h.ren_other hpq

theorem StampR.mono {C C' : Ctx} {M M' : Mem} {m i : Nat} {x : Value} (hC : C.le C') (hm : ∀ ents clock, M[C.φ m]? = some (.map ents clock) → M'[C.φ m]? = M[C.φ m]?) (h : StampR C M m i x) : StampR C' M' m i x := by
  obtain ⟨h0, ents, clock, e, h1, h2, h3⟩ := h
  exact ⟨Nat.lt_of_lt_of_le h0 hC.nb, ents, clock, e, by rw [hC.φ _ h0, hm _ _ h1]; exact h1, h2, h3⟩

/-- a tmp's value, kept -/
theorem TV.keep {C C' : Ctx} {perm perm' : Perm} {M M' : Mem} {lam lam' : Nat → Nat} {bx bx' : Nat → Option (List V)} {t : Nat} {v : V} {x : Value} (hC : C.le C')
    (hR : Rt perm M (.t t) v x → Rt perm' M' (.t t) v x)
    (hm : ∀ m ents clock, m < C.nb → M[C.φ m]? = some (.map ents clock) → M'[C.φ m]? = M[C.φ m]?)
    (hb : ∀ s cs, bx s = some cs → lam' s = lam s ∧ ∃ cs', bx' s = some cs' ∧ cs.length ≤ cs'.length)
    (h : TV C perm M lam bx t v x) : TV C' perm' M' lam' bx' t v x := by
  cases v <;> simp only [TV] at h ⊢
  case lptr s o =>
    obtain ⟨h1, h2⟩ := h
    obtain ⟨cs, hcs⟩ := Option.isSome_iff_exists.1 h1
    obtain ⟨e, cs', hcs', _⟩ := hb _ _ hcs
    exact ⟨by rw [hcs']; rfl, by rw [e]; exact h2⟩
  case lmsl s o k n c =>
    obtain ⟨cs, hcs, h1, h2, h3⟩ := h
    obtain ⟨e, cs', hcs', hl⟩ := hb _ _ hcs
    exact ⟨cs', hcs', h1, Nat.le_trans h2 hl, by rw [e]; exact h3⟩
  case stamp m i => exact h.mono hC (fun ents clock => hm m ents clock h.1)
  case ment v m i =>
    obtain ⟨y, z, h1, h2, h3⟩ := h
    exact ⟨y, z, h1, h2.mono hC, h3.mono hC (fun ents clock => hm m ents clock h3.1)⟩
  all_goals exact ⟨h.1.mono hC, hR h.2⟩

theorem FRs.ren [Glob] {φ : Phi} {lam : Nat → Nat} {perm : Perm} {S : St} {a : Act} {M : Mem} (h : FRs φ lam perm S a M) {q : Pos} (hq : S.deadAt q) (p1 : Pos) :
    FRs φ lam (renP perm q p1) S a M := by
  have hC : (mkC φ S.hp.length perm M).le (mkC φ S.hp.length (renP perm q p1) M) := (Evo.ren M q p1).le (fun _ _ => rfl) (Nat.le_refl _)
  refine ⟨⟨fun b cs hb => ?_, fun b ar es hb => ?_, fun b k cs ver hb => ?_, fun b m hb => ?_, h.hr.hdlt⟩, fun s cs hs => ?_, fun t v hv => ?_, h.len, h.defers, fun r hr => renP_none (h.fresh r hr), GlOK.evo h.gl (Evo.ren M q p1)⟩
  · obtain ⟨h1, arr, elem, h2, h3⟩ := h.hr.cells b cs hb
    exact ⟨renP_ns h1 (by simp), arr, elem, h2, h3.mono hC fun i v x hv hr => hr.ren_any fun e => by subst e; exact hq cs v hb hv⟩
  · obtain ⟨h1, ents, clock, h2, h3⟩ := h.hr.maps b ar es hb
    exact ⟨renP_ns h1 (by simp), ents, clock, h2, h3.mono hC⟩
  · obtain ⟨r, off, cap, arr, elem, N, h1, h2, h3, h4, h5, h6, h7, h8⟩ := h.hr.vecs b k cs ver hb
    exact ⟨r, off, cap, arr, elem, N, h1, h2, renP_ns h3 (by simp), h4, h5, h6, h7, h8.mono hC⟩
  · obtain ⟨h0, h1, h2⟩ := h.hr.eits b m hb
    exact ⟨h0, renP_ns h1 (by simp), h2⟩
  · obtain ⟨h1, arr, elem, h2, h3⟩ := h.br s cs hs
    exact ⟨renP_ns h1 (by simp), arr, elem, h2, h3.mono hC fun i v x hv hr => hr.ren_any fun e => by subst e; exact hq cs v hs hv⟩
  · exact (h.tm t v hv).keep hC (fun hr => hr.ren_any fun e => by subst e; exact hq v hv) (fun _ _ _ _ _ => rfl) (fun s cs hs => ⟨rfl, cs, hs, Nat.le_refl _⟩)

theorem getD_put (a : Act) (d t : Nat) (x : Value) (hd : d < a.tmps.size) : (a.put (some d) x).tmps.getD t undef = if d = t then x else a.tmps.getD t undef := by
  simp only [Act.put, Array.getD_eq_getD_getElem?, Array.getElem?_setIfInBounds]
  by_cases h : d = t
  · subst h; simp [hd]
  · simp [h]

theorem size_put (a : Act) (d : Option Nat) (x : Value) : (a.put d x).tmps.size = a.tmps.size := by
  cases d <;> simp [Act.put]

theorem defers_put (a : Act) (d : Option Nat) (x : Value) : (a.put d x).defers = a.defers := by
  cases d <;> rfl

theorem FRs.kill [Glob] {φ : Phi} {lam : Nat → Nat} {perm : Perm} {S : St} {a : Act} {M : Mem} (h : FRs φ lam perm S a M) (t0 : Nat) :
    FRs φ lam perm { S with tm := S.tm.set t0 .dead } a M := by
  refine ⟨h.hr, h.br, fun t v hv => ?_, by simpa using h.len, h.defers, h.fresh, h.gl⟩
  simp only [List.getElem?_set] at hv
  by_cases e : t0 = t
  · simp only [e, if_true] at hv
    split at hv
    · cases hv; trivial
    · cases hv
  · simp only [e, if_false] at hv
    exact h.tm t v hv

theorem FRs.kills [Glob] {φ : Phi} {lam : Nat → Nat} {perm : Perm} {a : Act} {M : Mem} : ∀ (ts : List Nat) {S : St} (_h : FRs φ lam perm S a M),
    FRs φ lam perm { S with tm := (ts.map fun t => (t, V.dead)).foldl (fun tm p => tm.set p.1 p.2) S.tm } a M
  | [], S, h => h
  | t :: ts, _, h => FRs.kills ts (h.kill t)

theorem FRs.setT [Glob] {φ : Phi} {lam : Nat → Nat} {perm : Perm} {S : St} {a : Act} {M : Mem} (h : FRs φ lam perm S a M) {d : Nat} {v : V} {x : Value}
    (hv : TV (mkC φ S.hp.length perm M) perm M lam S.box d v x) : FRs φ lam perm { S with tm := S.tm.set d v } (a.put (some d) x) M := by
  refine ⟨h.hr, h.br, fun t u hu => ?_, by rw [size_put]; simpa using h.len, by rw [defers_put]; exact h.defers, h.fresh, h.gl⟩
  simp only [List.getElem?_set] at hu
  by_cases e : d = t
  · subst e
    simp only [if_true] at hu
    split at hu
    · rename_i hlt
      cases hu
      rw [getD_put _ _ _ _ (by rw [h.len]; exact hlt), if_pos rfl]
      exact hv
    · cases hu
  · simp only [e, if_false] at hu
    rcases Nat.lt_or_ge d a.tmps.size with hlt | hge
    · rw [getD_put _ _ _ _ hlt, if_neg e]; exact h.tm t u hu
    · have : a.put (some d) x = a := by
        cases a with
        | mk tmps defers =>
          have hge' : tmps.size ≤ d := hge
          simp only [Act.put]; congr 1
          simp only [Array.setIfInBounds]
          rw [dif_neg (by omega)]
      rw [this]; exact h.tm t u hu

/-- 'undef' where nothing comes -/
theorem FRs.setU [Glob] {φ : Phi} {lam : Nat → Nat} {perm : Perm} {S : St} {a : Act} {M : Mem} (h : FRs φ lam perm S a M) (x : Value) : FRs φ lam perm S (a.put none x) M := h

theorem FRs.putDead [Glob] {φ : Phi} {lam : Nat → Nat} {perm : Perm} {S : St} {a : Act} {M : Mem} (h : FRs φ lam perm S a M) (d : Nat) (x : Value) :
    FRs φ lam perm { S with tm := S.tm.set d .dead } (a.put (some d) x) M := h.setT (v := .dead) trivial

end Go.Hx

/-
  Hx, part 5: writes to memory, and new memory.
-/
namespace Go.Hx
open Go

theorem set_get {M : Mem} {r : Nat} {o : Obj} (h : r < M.size) (r' : Nat) : (M.setIfInBounds r o)[r']? = if r = r' then some o else M[r']? := by
  rw [Array.getElem?_setIfInBounds]
  by_cases e : r = r'
  · subst e; simp [h]
  · simp [e]

theorem lt_of_some {M : Mem} {r : Nat} {o : Obj} (h : M[r]? = some o) : r < M.size := by
  rcases Nat.lt_or_ge r M.size with hlt | hge
  · exact hlt
  · rw [Array.getElem?_eq_none hge] at h; cases h

theorem cellAt_cells {M : Mem} {r : Nat} {arr : Array Value} {elem : Nat} {fz : Nat × Nat} (h : M[r]? = some (.cells arr elem fz)) (o : Nat) : cellAt M r o = arr[o]? := by
  unfold cellAt; rw [h]

theorem blockSize_cells {M : Mem} {r : Nat} {arr : Array Value} {elem : Nat} {fz : Nat × Nat} (h : M[r]? = some (.cells arr elem fz)) : blockSize M r = arr.size := by
  unfold blockSize; rw [h]

theorem cellAt_congr {M M' : Mem} {r : Nat} (h : M'[r]? = M[r]?) (o : Nat) : cellAt M' r o = cellAt M r o := by
  unfold cellAt; rw [h]

theorem blockSize_congr {M M' : Mem} {r : Nat} (h : M'[r]? = M[r]?) : blockSize M' r = blockSize M r := by
  unfold blockSize; rw [h]

theorem imm_congr {p p' : Perm} {r : Nat} (h : p' r = p r) (o : Nat) : imm p' r o = imm p r o := by
  unfold imm; rw [h]

theorem imm_zero {p : Perm} {r : Nat} {h : Holder} (hp : p r = some (h, 0)) (o : Nat) : imm p r o = false := by
  unfold imm; rw [hp]; simp

theorem Evo.at {M M' : Mem} {p p' : Perm} {r0 : Nat} (hsz : M'.size = M.size) (ho : ∀ r, r ≠ r0 → M'[r]? = M[r]? ∧ p' r = p r)
    {h0 : Holder} {lo : Nat} (hp : p r0 = some (h0, lo)) (hne : h0 ≠ .other)
    (himm : ∀ o v, Hx.imm p r0 o = true → cellAt M r0 o = some v → Hx.imm p' r0 o = true ∧ cellAt M' r0 o = some v) (hbs : blockSize M r0 ≤ blockSize M' r0) : Evo M p M' p' :=
  ⟨by omega, fun r hr h => by
    by_cases e : r = r0
    · subst e
      rcases h with h | ⟨l, h⟩ <;> rw [hp] at h <;> simp at h
      exact absurd h.1 hne
    · exact ho r e, fun r o v hi hc => by
    by_cases e : r = r0
    · subst e; exact himm o v hi hc
    · obtain ⟨e1, e2⟩ := ho r e
      exact ⟨by rw [imm_congr e2]; exact hi, by rw [cellAt_congr e1]; exact hc⟩, fun r => by
    by_cases e : r = r0
    · subst e; exact hbs
    · exact Nat.le_of_eq (blockSize_congr (ho r e).1).symm⟩

theorem Evo.push {M : Mem} {p p' : Perm} (o : Obj) (hp : ∀ r, r < M.size → p' r = p r) : Evo M p (M.push o) p' := by
  have hold : ∀ r, r < M.size → (M.push o)[r]? = M[r]? := fun r hr => by rw [Array.getElem?_push]; simp [Nat.ne_of_lt hr]
  refine ⟨by simp, fun r hr _ => ⟨hold r hr, hp r hr⟩, fun r o' v hi hc => ?_, fun r => ?_⟩
  · have hr : r < M.size := by
      unfold cellAt at hc
      split at hc
      · rename_i h; exact lt_of_some h
      · cases hc
    exact ⟨by rw [imm_congr (hp r hr)]; exact hi, by rw [cellAt_congr (hold r hr)]; exact hc⟩
  · rcases Nat.lt_or_ge r M.size with hr | hr
    · exact Nat.le_of_eq (blockSize_congr (hold r hr)).symm
    · unfold blockSize; rw [Array.getElem?_eq_none hr]; exact Nat.zero_le _

theorem hset_get {h : Heap} {b : Nat} {o : HObj} (hb : b < h.length) (b' : Nat) : (h.set b o)[b']? = if b = b' then some o else h[b']? := by
  rw [List.getElem?_set]
  by_cases e : b = b'
  · subst e; simp [hb]
  · simp [e]

theorem hlt_of_some {h : Heap} {b : Nat} {o : HObj} (hb : h[b]? = some o) : b < h.length := by
  rcases Nat.lt_or_ge b h.length with hlt | hge
  · exact hlt
  · rw [List.getElem?_eq_none hge] at hb; cases hb

/-- a new block of the abstract heap -/
def Phi.upd (φ : Phi) (n r : Nat) : Phi := ⟨fun b => if b = n then r else φ b, φ.hd⟩

@[simp] theorem Phi.upd_self (φ : Phi) (n r : Nat) : (φ.upd n r).f n = r := by simp [Phi.upd]

section
variable [Glob] {φ : Phi} {lam : Nat → Nat} {perm : Perm} {S : St} {a : Act} {M : Mem}

/-- a block of the abstract heap, written -/
theorem FRs.wrHeap (h : FRs φ lam perm S a M) {b : Nat} {cs cs' : List V} {arr arr' : Array Value} {elem : Nat} (hb : S.hp[b]? = some (.cells cs))
    (hM : M[φ b]? = some (.cells arr elem (0, 0))) (hs : arr.size = arr'.size)
    (hrow : RowR (mkC φ S.hp.length perm (M.setIfInBounds (φ b) (.cells arr' elem (0, 0)))) perm (M.setIfInBounds (φ b) (.cells arr' elem (0, 0))) (.h b) cs' arr') :
    FRs φ lam perm { S with hp := S.hp.set b (.cells cs') } a (M.setIfInBounds (φ b) (.cells arr' elem (0, 0))) ∧
    Evo M perm (M.setIfInBounds (φ b) (.cells arr' elem (0, 0))) perm := by
  obtain ⟨hp, -⟩ := h.hr.cells b cs hb
  change perm (φ b) = some (.hb b, 0) at hp
  have hlt := lt_of_some hM
  generalize hM' : M.setIfInBounds (φ b) (.cells arr' elem (0, 0)) = M' at *
  have hget : ∀ r', M'[r']? = if φ b = r' then some (.cells arr' elem (0, 0)) else M[r']? := fun r' => by rw [← hM']; exact set_get hlt r'
  have ho : ∀ r, r ≠ φ b → M'[r]? = M[r]? ∧ perm r = perm r := fun r hr => ⟨by rw [hget, if_neg (Ne.symm hr)], rfl⟩
  have hE : Evo M perm M' perm := Evo.at (by rw [← hM']; simp) ho hp (by simp) (fun o v hi _ => by rw [imm_zero hp] at hi; cases hi)
    (by rw [blockSize_cells hM, blockSize_cells (M := M') (by rw [hget, if_pos rfl])]; omega)
  have hC : (mkC φ S.hp.length perm M).le (mkC φ S.hp.length perm M') := hE.le (fun _ _ => rfl) (Nat.le_refl _)
  have hblt := hlt_of_some hb
  have hRt : ∀ p v x, Rt perm M p v x → Rt perm M' p v x := fun p v x hr => hr.other hp (by simp) ho
  have hmap : ∀ m ents clock, m < S.hp.length → M[φ m]? = some (.map ents clock) → M'[φ m]? = M[φ m]? := fun m ents clock _ hm =>
    (ho _ (fun e => by rw [e, hM] at hm; cases hm)).1
  refine ⟨⟨⟨fun b' cs1 hb' => ?_, fun b' ar' es hb' => ?_, fun b' k' cs1 ver hb' => ?_, fun b' m hb' => ?_, fun g ver hg => h.hr.hdlt g ver (by simpa [mkC] using hg)⟩, fun s cs1 hs1 => ?_, fun t v hv => ?_, h.len, h.defers, fun r hr => h.fresh r (by rw [← hM'] at hr; simpa using hr), GlOK.evo h.gl hE⟩, hE⟩
  · simp only [hset_get hblt] at hb'
    simp only [List.length_set]
    by_cases e : b = b'
    · subst e
      simp only [if_true] at hb'; cases hb'
      exact ⟨hp, arr', elem, by show M'[φ b]? = _; rw [hget, if_pos rfl], hrow⟩
    · simp only [e, if_false] at hb'
      obtain ⟨h1, arr1, elem1, h2, h3⟩ := h.hr.cells b' cs1 hb'
      have hne : φ b' ≠ φ b := fun e2 => by
        change perm (φ b') = _ at h1; rw [e2, hp] at h1; simp at h1; exact e h1
      exact ⟨h1, arr1, elem1, by show M'[φ b']? = _; rw [(ho _ hne).1]; exact h2, h3.mono hC fun i v x _ hr => hRt _ _ _ hr⟩
  · simp only [hset_get hblt] at hb'
    simp only [List.length_set]
    by_cases e : b = b'
    · subst e; simp at hb'
    · simp only [e, if_false] at hb'
      obtain ⟨h1, ents, clock, h2, h3⟩ := h.hr.maps b' ar' es hb'
      have hne : φ b' ≠ φ b := fun e2 => by
        change perm (φ b') = _ at h1; rw [e2, hp] at h1; simp at h1; exact e h1
      exact ⟨h1, ents, clock, by show M'[φ b']? = _; rw [(ho _ hne).1]; exact h2, h3.mono hC⟩
  · simp only [hset_get hblt] at hb'
    simp only [List.length_set]
    by_cases e : b = b'
    · subst e; simp at hb'
    · simp only [e, if_false] at hb'
      obtain ⟨r, off, cap, arr1, elem1, N, h1, h2, h3, h4, h5, h6, h7, h8⟩ := h.hr.vecs b' k' cs1 ver hb'
      have hne : r ≠ φ b := fun e2 => by rw [e2, hp] at h3; simp at h3; exact e h3
      exact ⟨r, off, cap, arr1, elem1, N, h1, h2, h3, by rw [(ho _ hne).1]; exact h4, h5, h6, h7, h8.mono hC⟩
  · simp only [hset_get hblt] at hb'
    simp only [List.length_set]
    by_cases e : b = b'
    · subst e; simp at hb'
    · simp only [e, if_false] at hb'
      obtain ⟨h0, h1, c1, c2, c3, h2⟩ := h.hr.eits b' m hb'
      have hne : φ b' ≠ φ b := fun e2 => by
        change perm (φ b') = _ at h1; rw [e2, hp] at h1; simp at h1; exact e h1
      exact ⟨h0, h1, c1, c2, c3, by show M'[φ b']? = _; rw [(ho _ hne).1]; exact h2⟩
  · obtain ⟨h1, arr1, elem1, h2, h3⟩ := h.br s cs1 hs1
    have hne : lam s ≠ φ b := fun e2 => by rw [e2, hp] at h1; simp at h1
    simp only [List.length_set]
    exact ⟨h1, arr1, elem1, by rw [(ho _ hne).1]; exact h2, h3.mono hC fun i v x _ hr => hRt _ _ _ hr⟩
  · simp only [List.length_set]
    exact (h.tm t v hv).keep hC (hRt _ _ _) hmap (fun s cs hs => ⟨rfl, cs, hs, Nat.le_refl _⟩)

/-- a map of the abstract heap, written -/
theorem FRs.wrMap (h : FRs φ lam perm S a M) {b ar : Nat} {es es' : List (V × V)} {ents ents' : Array MapEntry} {clock clock' : Nat} (hb : S.hp[b]? = some (.map ar es))
    (hM : M[φ b]? = some (.map ents clock))
    (hst : noSt S.tm = true ∨ ∀ (i : Nat) (e : MapEntry), ents[i]? = some e → ∃ e' : MapEntry, ents'[i]? = some e' ∧ e'.born = e.born)
    (hrow : MapR (mkC φ S.hp.length perm (M.setIfInBounds (φ b) (.map ents' clock'))) ar es' ents' clock') :
    FRs φ lam perm { S with hp := S.hp.set b (.map ar es') } a (M.setIfInBounds (φ b) (.map ents' clock')) ∧
    Evo M perm (M.setIfInBounds (φ b) (.map ents' clock')) perm := by
  obtain ⟨hp, -⟩ := h.hr.maps b ar es hb
  change perm (φ b) = some (.hb b, 0) at hp
  have hlt := lt_of_some hM
  generalize hM' : M.setIfInBounds (φ b) (.map ents' clock') = M' at *
  have hget : ∀ r', M'[r']? = if φ b = r' then some (.map ents' clock') else M[r']? := fun r' => by rw [← hM']; exact set_get hlt r'
  have ho : ∀ r, r ≠ φ b → M'[r]? = M[r]? ∧ perm r = perm r := fun r hr => ⟨by rw [hget, if_neg (Ne.symm hr)], rfl⟩
  have hE : Evo M perm M' perm := Evo.at (by rw [← hM']; simp) ho hp (by simp) (fun o v hi _ => by rw [imm_zero hp] at hi; cases hi)
    (by unfold blockSize; rw [hM]; exact Nat.zero_le _)
  have hC : (mkC φ S.hp.length perm M).le (mkC φ S.hp.length perm M') := hE.le (fun _ _ => rfl) (Nat.le_refl _)
  have hblt := hlt_of_some hb
  have hRt : ∀ p v x, Rt perm M p v x → Rt perm M' p v x := fun p v x hr => hr.other hp (by simp) ho
  have hS : noSt S.tm = true ∨ ∀ m i x, StampR (mkC φ S.hp.length perm M) M m i x → StampR (mkC φ S.hp.length perm M') M' m i x := hst.imp id fun hst m i x hs => by
    obtain ⟨g0, en, cl, e, g1, g2, g3⟩ := hs
    by_cases hm : φ m = φ b
    · have g1' : M[φ m]? = some (.map en cl) := g1
      rw [hm, hM] at g1'
      simp only [Option.some.injEq, Obj.map.injEq] at g1'
      obtain ⟨rfl, rfl⟩ := g1'
      obtain ⟨e', k1, k2⟩ := hst i e g2
      exact ⟨g0, ents', clock', e', by show M'[φ m]? = _; rw [hget, if_pos hm.symm], k1, by rw [k2]; exact g3⟩
    · exact ⟨g0, en, cl, e, by show M'[φ m]? = _; rw [(ho _ hm).1]; exact g1, g2, g3⟩
  refine ⟨⟨⟨fun b' cs1 hb' => ?_, fun b' ar' es1 hb' => ?_, fun b' k' cs1 ver hb' => ?_, fun b' m hb' => ?_, fun g ver hg => h.hr.hdlt g ver (by simpa [mkC] using hg)⟩, fun s cs1 hs1 => ?_, fun t v hv => ?_, h.len, h.defers, fun r hr => h.fresh r (by rw [← hM'] at hr; simpa using hr), GlOK.evo h.gl hE⟩, hE⟩
  · simp only [hset_get hblt] at hb'
    simp only [List.length_set]
    by_cases e : b = b'
    · subst e; simp at hb'
    · simp only [e, if_false] at hb'
      obtain ⟨h1, arr1, elem1, h2, h3⟩ := h.hr.cells b' cs1 hb'
      have hne : φ b' ≠ φ b := fun e2 => by
        change perm (φ b') = _ at h1; rw [e2, hp] at h1; simp at h1; exact e h1
      exact ⟨h1, arr1, elem1, by show M'[φ b']? = _; rw [(ho _ hne).1]; exact h2, h3.mono hC fun i v x _ hr => hRt _ _ _ hr⟩
  · simp only [hset_get hblt] at hb'
    simp only [List.length_set]
    by_cases e : b = b'
    · subst e
      simp only [if_true] at hb'; cases hb'
      exact ⟨hp, ents', clock', by show M'[φ b]? = _; rw [hget, if_pos rfl], hrow⟩
    · simp only [e, if_false] at hb'
      obtain ⟨h1, ents1, clock1, h2, h3⟩ := h.hr.maps b' ar' es1 hb'
      have hne : φ b' ≠ φ b := fun e2 => by
        change perm (φ b') = _ at h1; rw [e2, hp] at h1; simp at h1; exact e h1
      exact ⟨h1, ents1, clock1, by show M'[φ b']? = _; rw [(ho _ hne).1]; exact h2, h3.mono hC⟩
  · simp only [hset_get hblt] at hb'
    simp only [List.length_set]
    by_cases e : b = b'
    · subst e; simp at hb'
    · simp only [e, if_false] at hb'
      obtain ⟨r, off, cap, arr1, elem1, N, h1, h2, h3, h4, h5, h6, h7, h8⟩ := h.hr.vecs b' k' cs1 ver hb'
      have hne : r ≠ φ b := fun e2 => by rw [e2, hp] at h3; simp at h3; exact e h3
      exact ⟨r, off, cap, arr1, elem1, N, h1, h2, h3, by rw [(ho _ hne).1]; exact h4, h5, h6, h7, h8.mono hC⟩
  · simp only [hset_get hblt] at hb'
    simp only [List.length_set]
    by_cases e : b = b'
    · subst e; simp at hb'
    · simp only [e, if_false] at hb'
      obtain ⟨h0, h1, c1, c2, c3, h2⟩ := h.hr.eits b' m hb'
      have hne : φ b' ≠ φ b := fun e2 => by
        change perm (φ b') = _ at h1; rw [e2, hp] at h1; simp at h1; exact e h1
      exact ⟨h0, h1, c1, c2, c3, by show M'[φ b']? = _; rw [(ho _ hne).1]; exact h2⟩
  · obtain ⟨h1, arr1, elem1, h2, h3⟩ := h.br s cs1 hs1
    have hne : lam s ≠ φ b := fun e2 => by rw [e2, hp] at h1; simp at h1
    simp only [List.length_set]
    exact ⟨h1, arr1, elem1, by rw [(ho _ hne).1]; exact h2, h3.mono hC fun i v x _ hr => hRt _ _ _ hr⟩
  · simp only [List.length_set]
    have hv' := h.tm t v hv
    cases v <;> simp only [TV] at hv' ⊢
    case lptr s o => exact hv'
    case lmsl s o k n c => exact hv'
    case stamp m i =>
      rcases hS with hS | hS
      · have := List.all_eq_true.1 hS _ (List.mem_of_getElem? hv); simp at this
      · exact hS _ _ _ hv'
    case ment v m i =>
      rcases hS with hS | hS
      · have := List.all_eq_true.1 hS _ (List.mem_of_getElem? hv); simp at this
      · obtain ⟨y, z, k1, k2, k3⟩ := hv'
        exact ⟨y, z, k1, k2.mono hC, hS _ _ _ k3⟩
    all_goals exact ⟨hv'.1.mono hC, hRt _ _ _ hv'.2⟩

/-- a box of the frame, written -/
theorem FRs.wrBox (h : FRs φ lam perm S a M) {s : Nat} {cs cs' : List V} {arr arr' : Array Value} {elem : Nat} (hb : S.box s = some cs) (hl : cs.length ≤ cs'.length)
    (hM : M[lam s]? = some (.cells arr elem (0, 0))) (hs : arr.size = arr'.size)
    (hrow : RowR (mkC φ S.hp.length perm (M.setIfInBounds (lam s) (.cells arr' elem (0, 0)))) perm (M.setIfInBounds (lam s) (.cells arr' elem (0, 0))) (.b s) cs' arr') :
    FRs φ lam perm { S with bx := setBx S.bx s cs' } a (M.setIfInBounds (lam s) (.cells arr' elem (0, 0))) ∧
    Evo M perm (M.setIfInBounds (lam s) (.cells arr' elem (0, 0))) perm := by
  obtain ⟨hp, -⟩ := h.br s cs hb
  have hlt := lt_of_some hM
  generalize hM' : M.setIfInBounds (lam s) (.cells arr' elem (0, 0)) = M' at *
  have hget : ∀ r', M'[r']? = if lam s = r' then some (.cells arr' elem (0, 0)) else M[r']? := fun r' => by rw [← hM']; exact set_get hlt r'
  have ho : ∀ r, r ≠ lam s → M'[r]? = M[r]? ∧ perm r = perm r := fun r hr => ⟨by rw [hget, if_neg (Ne.symm hr)], rfl⟩
  have hE : Evo M perm M' perm := Evo.at (by rw [← hM']; simp) ho hp (by simp) (fun o v hi _ => by rw [imm_zero hp] at hi; cases hi)
    (by rw [blockSize_cells hM, blockSize_cells (M := M') (by rw [hget, if_pos rfl])]; omega)
  have hC : (mkC φ S.hp.length perm M).le (mkC φ S.hp.length perm M') := hE.le (fun _ _ => rfl) (Nat.le_refl _)
  have hRt : ∀ p v x, Rt perm M p v x → Rt perm M' p v x := fun p v x hr => hr.other hp (by simp) ho
  have hmap : ∀ m ents clock, m < S.hp.length → M[φ m]? = some (.map ents clock) → M'[φ m]? = M[φ m]? := fun m ents clock _ hm =>
    (ho _ (fun e => by rw [e, hM] at hm; cases hm)).1
  refine ⟨⟨⟨fun b' cs1 hb' => ?_, fun b' ar' es hb' => ?_, fun b' k' cs1 ver hb' => ?_, fun b' m hb' => ?_, h.hr.hdlt⟩, fun s1 cs1 hs1 => ?_, fun t v hv => ?_, h.len, h.defers, fun r hr => h.fresh r (by rw [← hM'] at hr; simpa using hr), GlOK.evo h.gl hE⟩, hE⟩
  · obtain ⟨h1, arr1, elem1, h2, h3⟩ := h.hr.cells b' cs1 hb'
    have hne : φ b' ≠ lam s := fun e2 => by
      change perm (φ b') = _ at h1; rw [e2, hp] at h1; simp at h1
    exact ⟨h1, arr1, elem1, by show M'[φ b']? = _; rw [(ho _ hne).1]; exact h2, h3.mono hC fun i v x _ hr => hRt _ _ _ hr⟩
  · obtain ⟨h1, ents, clock, h2, h3⟩ := h.hr.maps b' ar' es hb'
    have hne : φ b' ≠ lam s := fun e2 => by
      change perm (φ b') = _ at h1; rw [e2, hp] at h1; simp at h1
    exact ⟨h1, ents, clock, by show M'[φ b']? = _; rw [(ho _ hne).1]; exact h2, h3.mono hC⟩
  · obtain ⟨r, off, cap, arr1, elem1, N, h1, h2, h3, h4, h5, h6, h7, h8⟩ := h.hr.vecs b' k' cs1 ver hb'
    have hne : r ≠ lam s := fun e2 => by rw [e2, hp] at h3; simp at h3
    exact ⟨r, off, cap, arr1, elem1, N, h1, h2, h3, by rw [(ho _ hne).1]; exact h4, h5, h6, h7, h8.mono hC⟩
  · obtain ⟨h0, h1, c1, c2, c3, h2⟩ := h.hr.eits b' m hb'
    have hne : φ b' ≠ lam s := fun e2 => by
      change perm (φ b') = _ at h1; rw [e2, hp] at h1; simp at h1
    exact ⟨h0, h1, c1, c2, c3, by show M'[φ b']? = _; rw [(ho _ hne).1]; exact h2⟩
  · simp only [St.box, look_setBx] at hs1
    by_cases e : s = s1
    · subst e
      simp only [if_true] at hs1; cases hs1
      exact ⟨hp, arr', elem, by rw [hget, if_pos rfl], hrow⟩
    · simp only [e, if_false] at hs1
      obtain ⟨h1, arr1, elem1, h2, h3⟩ := h.br s1 cs1 hs1
      have hne : lam s1 ≠ lam s := fun e2 => by rw [e2, hp] at h1; simp at h1; exact e h1
      exact ⟨h1, arr1, elem1, by rw [(ho _ hne).1]; exact h2, h3.mono hC fun i v x _ hr => hRt _ _ _ hr⟩
  · refine (h.tm t v hv).keep hC (hRt _ _ _) hmap (fun s1 cs1 hs1 => ⟨rfl, ?_⟩)
    simp only [St.box, look_setBx]
    by_cases e : s = s1
    · subst e
      rw [hb] at hs1; cases hs1
      exact ⟨cs', by simp, hl⟩
    · exact ⟨cs1, by simp only [e, if_false]; exact hs1, Nat.le_refl _⟩

/-- new memory: what was there stays -/
theorem FRs.pushed (h : FRs φ lam perm S a M) (o : Obj) {perm' : Perm} (hp : ∀ r, r < M.size → perm' r = perm r) (hf : ∀ r, M.size < r → perm' r = none) :
    FRs φ lam perm' S a (M.push o) := by
  have hE : Evo M perm (M.push o) perm' := Evo.push o hp
  have hC : (mkC φ S.hp.length perm M).le (mkC φ S.hp.length perm' (M.push o)) := hE.le (fun _ _ => rfl) (Nat.le_refl _)
  have hold : ∀ r, r < M.size → (M.push o)[r]? = M[r]? := fun r hr => by rw [Array.getElem?_push]; simp [Nat.ne_of_lt hr]
  have hRt : ∀ p v x, Rt perm M p v x → Rt perm' (M.push o) p v x := fun p v x hr => hr.grow fun r hr => ⟨hold r hr, hp r hr⟩
  have hmap : ∀ m ents clock, m < S.hp.length → M[φ m]? = some (.map ents clock) → (M.push o)[φ m]? = M[φ m]? := fun m ents clock _ hm => hold _ (lt_of_some hm)
  refine ⟨⟨fun b cs hb => ?_, fun b ar es hb => ?_, fun b' k' cs1 ver hb' => ?_, fun b' m hb' => ?_, h.hr.hdlt⟩, fun s cs hs => ?_, fun t v hv => ?_, h.len, h.defers, fun r hr => hf r (by simp at hr; omega), GlOK.evo h.gl hE⟩
  · obtain ⟨h1, arr, elem, h2, h3⟩ := h.hr.cells b cs hb
    have hlt : φ b < M.size := lt_of_some h2
    exact ⟨by show perm' (φ b) = _; rw [hp _ hlt]; exact h1, arr, elem, by show (M.push o)[φ b]? = _; rw [hold _ hlt]; exact h2, h3.mono hC fun i v x _ hr => hRt _ _ _ hr⟩
  · obtain ⟨h1, ents, clock, h2, h3⟩ := h.hr.maps b ar es hb
    have hlt : φ b < M.size := lt_of_some h2
    exact ⟨by show perm' (φ b) = _; rw [hp _ hlt]; exact h1, ents, clock, by show (M.push o)[φ b]? = _; rw [hold _ hlt]; exact h2, h3.mono hC⟩
  · obtain ⟨r, off, cap, arr1, elem1, N, h1, h2, h3, h4, h5, h6, h7, h8⟩ := h.hr.vecs b' k' cs1 ver hb'
    have hlt := lt_of_some h4
    exact ⟨r, off, cap, arr1, elem1, N, h1, h2, by rw [hp _ hlt]; exact h3, by rw [hold _ hlt]; exact h4, h5, h6, h7, h8.mono hC⟩
  · obtain ⟨h0, h1, c1, c2, c3, h2⟩ := h.hr.eits b' m hb'
    have hlt : φ b' < M.size := lt_of_some h2
    exact ⟨h0, by show perm' (φ b') = _; rw [hp _ hlt]; exact h1, c1, c2, c3, by show (M.push o)[φ b']? = _; rw [hold _ hlt]; exact h2⟩
  · obtain ⟨h1, arr, elem, h2, h3⟩ := h.br s cs hs
    have hlt := lt_of_some h2
    exact ⟨by rw [hp _ hlt]; exact h1, arr, elem, by rw [hold _ hlt]; exact h2, h3.mono hC fun i v x _ hr => hRt _ _ _ hr⟩
  · exact (h.tm t v hv).keep hC (hRt _ _ _) hmap (fun s cs hs => ⟨rfl, cs, hs, Nat.le_refl _⟩)

/-- a block of M that nobody owns becomes a block of the abstract heap -/
theorem FRs.addHeap (h : FRs φ lam perm S a M) {r : Nat} {cs : List V} {arr : Array Value} {elem : Nat} (hM : M[r]? = some (.cells arr elem (0, 0)))
    (hp : perm r = some (.hb S.hp.length, 0))
    (hrow : RowR (mkC φ S.hp.length perm M) perm M (.h S.hp.length) cs arr) :
    FRs (φ.upd S.hp.length r) lam perm { S with hp := S.hp ++ [.cells cs] } a M := by
  have hC : (mkC φ S.hp.length perm M).le (mkC (φ.upd S.hp.length r) (S.hp ++ [HObj.cells cs]).length perm M) :=
    mkC_le (fun b hb => by simp [Phi.upd, Nat.ne_of_lt hb]) (by simp) (fun _ _ _ h h' => ⟨h, h'⟩) (fun _ => Nat.le_refl _)
  have hφ : ∀ b, b < S.hp.length → (if b = S.hp.length then r else φ b) = φ b := fun b hb => by simp [Nat.ne_of_lt hb]
  refine ⟨⟨fun b cs1 hb => ?_, fun b ar es hb => ?_, fun b' k' cs1 ver hb' => ?_, fun b' m hb' => ?_, fun g ver hg => h.hr.hdlt g ver (by simp [mkC] at hg ⊢; omega)⟩, fun s cs1 hs => ?_, fun t v hv => ?_, h.len, h.defers, h.fresh, h.gl⟩
  · rcases Nat.lt_or_ge b S.hp.length with hlt | hge
    · rw [List.getElem?_append_left hlt] at hb
      obtain ⟨h1, arr1, elem1, h2, h3⟩ := h.hr.cells b cs1 hb
      exact ⟨by show perm (if b = S.hp.length then r else φ b) = _; rw [hφ b hlt]; exact h1, arr1, elem1, by show M[if b = S.hp.length then r else φ b]? = _; rw [hφ b hlt]; exact h2, h3.mono hC fun _ _ _ _ hr => hr⟩
    · rw [List.getElem?_append_right hge] at hb
      have hb0 : b = S.hp.length := by
        rcases Nat.lt_or_ge S.hp.length b with h' | h'
        · rw [List.getElem?_eq_none (by simp; omega)] at hb; cases hb
        · omega
      subst hb0
      simp at hb; subst hb
      exact ⟨by show perm (if _ then r else _) = _; rw [if_pos rfl]; exact hp, arr, elem, by show M[if _ then r else _]? = _; rw [if_pos rfl]; exact hM, hrow.mono hC fun _ _ _ _ hr => hr⟩
  · rcases Nat.lt_or_ge b S.hp.length with hlt | hge
    · rw [List.getElem?_append_left hlt] at hb
      obtain ⟨h1, ents, clock, h2, h3⟩ := h.hr.maps b ar es hb
      exact ⟨by show perm (if b = S.hp.length then r else φ b) = _; rw [hφ b hlt]; exact h1, ents, clock, by show M[if b = S.hp.length then r else φ b]? = _; rw [hφ b hlt]; exact h2, h3.mono hC⟩
    · rw [List.getElem?_append_right hge] at hb
      rcases Nat.lt_or_ge S.hp.length b with h' | h'
      · rw [List.getElem?_eq_none (by simp; omega)] at hb; cases hb
      · have : b - S.hp.length = 0 := by omega
        rw [this] at hb; simp at hb
  · rcases Nat.lt_or_ge b' S.hp.length with hlt | hge
    · rw [List.getElem?_append_left hlt] at hb'
      obtain ⟨r0, off, cap, arr1, elem1, N, h1, h2, h3, h4, h5, h6, h7, h8⟩ := h.hr.vecs b' k' cs1 ver hb'
      exact ⟨r0, off, cap, arr1, elem1, N, h1, h2, h3, h4, h5, h6, h7, h8.mono hC⟩
    · rw [List.getElem?_append_right hge] at hb'
      rcases Nat.lt_or_ge S.hp.length b' with h' | h'
      · rw [List.getElem?_eq_none (by simp; omega)] at hb'; cases hb'
      · have : b' - S.hp.length = 0 := by omega
        rw [this] at hb'; simp at hb'
  · rcases Nat.lt_or_ge b' S.hp.length with hlt | hge
    · rw [List.getElem?_append_left hlt] at hb'
      obtain ⟨h0, h1, c1, c2, c3, h2⟩ := h.hr.eits b' m hb'
      have h0' : m < S.hp.length := h0
      exact ⟨by simp [mkC]; omega, by show perm (if b' = S.hp.length then r else φ b') = _; rw [hφ b' hlt]; exact h1, c1, c2, c3, by
        show M[if b' = S.hp.length then r else φ b']? = some (.mapIter (some (if m = S.hp.length then r else φ m)) _ _ _); rw [hφ b' hlt, hφ m h0']; exact h2⟩
    · rw [List.getElem?_append_right hge] at hb'
      rcases Nat.lt_or_ge S.hp.length b' with h' | h'
      · rw [List.getElem?_eq_none (by simp; omega)] at hb'; cases hb'
      · have : b' - S.hp.length = 0 := by omega
        rw [this] at hb'; simp at hb'
  · obtain ⟨h1, arr1, elem1, h2, h3⟩ := h.br s cs1 hs
    exact ⟨h1, arr1, elem1, h2, h3.mono hC fun _ _ _ _ hr => hr⟩
  · exact (h.tm t v hv).keep hC (fun hr => hr) (fun _ _ _ _ _ => rfl) (fun s cs hs => ⟨rfl, cs, hs, Nat.le_refl _⟩)

theorem FRs.addMap (h : FRs φ lam perm S a M) {r ar : Nat} {es : List (V × V)} {ents : Array MapEntry} {clock : Nat} (hM : M[r]? = some (.map ents clock))
    (hp : perm r = some (.hb S.hp.length, 0)) (hrow : MapR (mkC φ S.hp.length perm M) ar es ents clock) :
    FRs (φ.upd S.hp.length r) lam perm { S with hp := S.hp ++ [.map ar es] } a M := by
  have hC : (mkC φ S.hp.length perm M).le (mkC (φ.upd S.hp.length r) (S.hp ++ [HObj.map ar es]).length perm M) :=
    mkC_le (fun b hb => by simp [Phi.upd, Nat.ne_of_lt hb]) (by simp) (fun _ _ _ h h' => ⟨h, h'⟩) (fun _ => Nat.le_refl _)
  have hφ : ∀ b, b < S.hp.length → (if b = S.hp.length then r else φ b) = φ b := fun b hb => by simp [Nat.ne_of_lt hb]
  refine ⟨⟨fun b cs1 hb => ?_, fun b ar' es1 hb => ?_, fun b' k' cs1 ver hb' => ?_, fun b' m hb' => ?_, fun g ver hg => h.hr.hdlt g ver (by simp [mkC] at hg ⊢; omega)⟩, fun s cs1 hs => ?_, fun t v hv => ?_, h.len, h.defers, h.fresh, h.gl⟩
  · rcases Nat.lt_or_ge b S.hp.length with hlt | hge
    · rw [List.getElem?_append_left hlt] at hb
      obtain ⟨h1, arr1, elem1, h2, h3⟩ := h.hr.cells b cs1 hb
      exact ⟨by show perm (if b = S.hp.length then r else φ b) = _; rw [hφ b hlt]; exact h1, arr1, elem1, by show M[if b = S.hp.length then r else φ b]? = _; rw [hφ b hlt]; exact h2, h3.mono hC fun _ _ _ _ hr => hr⟩
    · rw [List.getElem?_append_right hge] at hb
      rcases Nat.lt_or_ge S.hp.length b with h' | h'
      · rw [List.getElem?_eq_none (by simp; omega)] at hb; cases hb
      · have : b - S.hp.length = 0 := by omega
        rw [this] at hb; simp at hb
  · rcases Nat.lt_or_ge b S.hp.length with hlt | hge
    · rw [List.getElem?_append_left hlt] at hb
      obtain ⟨h1, ents1, clock1, h2, h3⟩ := h.hr.maps b ar' es1 hb
      exact ⟨by show perm (if b = S.hp.length then r else φ b) = _; rw [hφ b hlt]; exact h1, ents1, clock1, by show M[if b = S.hp.length then r else φ b]? = _; rw [hφ b hlt]; exact h2, h3.mono hC⟩
    · rw [List.getElem?_append_right hge] at hb
      have hb0 : b = S.hp.length := by
        rcases Nat.lt_or_ge S.hp.length b with h' | h'
        · rw [List.getElem?_eq_none (by simp; omega)] at hb; cases hb
        · omega
      subst hb0
      simp at hb; obtain ⟨rfl, rfl⟩ := hb
      exact ⟨by show perm (if _ then r else _) = _; rw [if_pos rfl]; exact hp, ents, clock, by show M[if _ then r else _]? = _; rw [if_pos rfl]; exact hM, hrow.mono hC⟩
  · rcases Nat.lt_or_ge b' S.hp.length with hlt | hge
    · rw [List.getElem?_append_left hlt] at hb'
      obtain ⟨r0, off, cap, arr1, elem1, N, h1, h2, h3, h4, h5, h6, h7, h8⟩ := h.hr.vecs b' k' cs1 ver hb'
      exact ⟨r0, off, cap, arr1, elem1, N, h1, h2, h3, h4, h5, h6, h7, h8.mono hC⟩
    · rw [List.getElem?_append_right hge] at hb'
      rcases Nat.lt_or_ge S.hp.length b' with h' | h'
      · rw [List.getElem?_eq_none (by simp; omega)] at hb'; cases hb'
      · have : b' - S.hp.length = 0 := by omega
        rw [this] at hb'; simp at hb'
  · rcases Nat.lt_or_ge b' S.hp.length with hlt | hge
    · rw [List.getElem?_append_left hlt] at hb'
      obtain ⟨h0, h1, c1, c2, c3, h2⟩ := h.hr.eits b' m hb'
      have h0' : m < S.hp.length := h0
      exact ⟨by simp [mkC]; omega, by show perm (if b' = S.hp.length then r else φ b') = _; rw [hφ b' hlt]; exact h1, c1, c2, c3, by
        show M[if b' = S.hp.length then r else φ b']? = some (.mapIter (some (if m = S.hp.length then r else φ m)) _ _ _); rw [hφ b' hlt, hφ m h0']; exact h2⟩
    · rw [List.getElem?_append_right hge] at hb'
      rcases Nat.lt_or_ge S.hp.length b' with h' | h'
      · rw [List.getElem?_eq_none (by simp; omega)] at hb'; cases hb'
      · have : b' - S.hp.length = 0 := by omega
        rw [this] at hb'; simp at hb'
  · obtain ⟨h1, arr1, elem1, h2, h3⟩ := h.br s cs1 hs
    exact ⟨h1, arr1, elem1, h2, h3.mono hC fun _ _ _ _ hr => hr⟩
  · exact (h.tm t v hv).keep hC (fun hr => hr) (fun _ _ _ _ _ => rfl) (fun s cs hs => ⟨rfl, cs, hs, Nat.le_refl _⟩)

/-- .. becomes a box of the frame -/
theorem FRs.addBox (h : FRs φ lam perm S a M) {r s : Nat} {cs : List V} {arr : Array Value} {elem : Nat} (hn : S.box s = none) (hM : M[r]? = some (.cells arr elem (0, 0)))
    (hp : perm r = some (.lb s, 0)) (hrow : RowR (mkC φ S.hp.length perm M) perm M (.b s) cs arr) :
    FRs φ (fun x => if x = s then r else lam x) perm { S with bx := setBx S.bx s cs } a M := by
  have hlam : ∀ x c, S.box x = some c → (if x = s then r else lam x) = lam x := fun x c hx => by
    by_cases e : x = s
    · subst e; rw [hn] at hx; cases hx
    · simp [e]
  refine ⟨h.hr, fun s1 cs1 hs1 => ?_, fun t v hv => ?_, h.len, h.defers, h.fresh, h.gl⟩
  · simp only [St.box, look_setBx] at hs1
    by_cases e : s = s1
    · subst e
      simp only [if_true] at hs1; cases hs1
      simp only [if_true]
      exact ⟨hp, arr, elem, hM, hrow⟩
    · simp only [e, if_false] at hs1
      simp only [show ¬ s1 = s from fun h => e h.symm, if_false]
      exact h.br s1 cs1 hs1
  · refine (h.tm t v hv).keep (Ctx.le.refl _) (fun hr => hr) (fun _ _ _ _ _ => rfl) (fun s1 cs1 hs1 => ⟨hlam s1 cs1 hs1, cs1, ?_, Nat.le_refl _⟩)
    simp only [St.box, look_setBx]
    by_cases e : s = s1
    · subst e; rw [hn] at hs1; cases hs1
    · simp only [e, if_false]; exact hs1
end
end Go.Hx

/-
  Hx, part 6: operands, and results.
-/
namespace Go.Hx
open Go

/-- a value as an operand (rights aside) -/
def OV (C : Ctx) (M : Mem) (lam : Nat → Nat) (bx : Nat → Option (List V)) (v : V) (x : Value) : Prop :=
  match v with
  | .dead => True
  | .lptr s o => (bx s).isSome = true ∧ x = .pointer (some ⟨lam s, o, none⟩)
  | .lmsl s o k n c => ∃ cs, bx s = some cs ∧ n ≤ c ∧ o + c * k ≤ cs.length ∧ x = .slice (some ⟨lam s, o, none⟩) n c
  | .stamp m i => StampR C M m i x
  | .ment v m i => ∃ y z, x = .tuple #[y, z] ∧ VR C v y ∧ StampR C M m i z
  | v => VR C v x

theorem TV.ov {C : Ctx} {perm : Perm} {M : Mem} {lam : Nat → Nat} {bx : Nat → Option (List V)} {t : Nat} {v : V} {x : Value} (h : TV C perm M lam bx t v x) : OV C M lam bx v x := by
  cases v <;> simp only [TV, OV] at h ⊢ <;> first | exact h | exact h.1

theorem TV.rt {C : Ctx} {perm : Perm} {M : Mem} {lam : Nat → Nat} {bx : Nat → Option (List V)} {t : Nat} {v : V} {x : Value} (h : TV C perm M lam bx t v x) : Rt perm M (.t t) v x := by
  cases v <;> simp only [TV] at h <;> first | exact h.2 | trivial | (unfold Rt; trivial)

theorem TV.of {C : Ctx} {perm : Perm} {M : Mem} {lam : Nat → Nat} {bx : Nat → Option (List V)} {t : Nat} {v : V} {x : Value} (h : OV C M lam bx v x) (hr : Rt perm M (.t t) v x) : TV C perm M lam bx t v x := by
  cases v <;> simp only [TV, OV] at h ⊢ <;> first | exact h | exact ⟨h, hr⟩

theorem VR.strip {C : Ctx} {v : V} {x : Value} (h : VR C v x) : VR C v.strip x := by
  cases h <;> try (first | exact .raw ‹_› | exact .tt | exact .ff | exact .ptr ‹_› | exact .map ‹_›)
  case eref vals h1 h2 h3 => exact .eref vals h1 h2 h3
  case slnil k r => simp only [V.strip]; exact .slnil
  case sl k es rt r off n cap vals h1 h2 h3 h4 h5 h6 h7 h8 =>
    have : V.strip (.sl k es rt) = .sl k es 0 := by
      simp only [V.strip]
    rw [this]
    exact .sl vals h1 h2 h3 h4 h5 h6 (fun _ h => by cases h) (by omega)
  case msl h1 h2 h3 h4 => exact .msl h1 h2 h3 h4
  case clo fv vals h1 h2 h3 h4 h5 h6 => exact .clo fv vals h1 h2 h3 h4 h5 h6
  case gs h1 h2 => exact .gs h1 h2
  case gptr h1 => exact .gptr h1
  case eit h1 => exact .eit h1
  case agg vals h1 h2 h3 h4 => exact .agg vals h1 h2 h3 h4
  case tup vals h1 h2 h3 => exact .tup vals h1 h2 h3

theorem OV.strip {C : Ctx} {M : Mem} {lam : Nat → Nat} {bx : Nat → Option (List V)} {v : V} {x : Value} (h : OV C M lam bx v x) : OV C M lam bx v.strip x := by
  cases v <;> simp only [OV, V.strip] at h ⊢ <;> first | exact h | exact h.strip

theorem Rt.strip {perm : Perm} {M : Mem} {p : Pos} {v : V} {x : Value} : Rt perm M p v.strip x := by
  cases v <;> try (simp only [V.strip]; unfold Rt; trivial)
  case sl k es r =>
    simp only [V.strip]
    unfold Rt
    split
    · rename_i h
      cases h
      intro h1
      split at h1 <;> simp at h1
    · trivial

theorem OV.lift {C : Ctx} {M : Mem} {lam : Nat → Nat} {bx : Nat → Option (List V)} {k : Nat} {x : Value} : OV C M lam bx (Hx.lift k x) x := by
  unfold Hx.lift
  split <;> first | exact VR.slnil | exact VR.tt | exact VR.ff | exact VR.raw rfl | trivial

theorem Rt.lift {perm : Perm} {M : Mem} {p : Pos} {k : Nat} {x : Value} : Rt perm M p (Hx.lift k x) x := by
  unfold Hx.lift
  split <;> (unfold Rt; trivial)

theorem OV.vr {C : Ctx} {M : Mem} {lam : Nat → Nat} {bx : Nat → Option (List V)} {v : V} {x : Value} (h : OV C M lam bx v x)
    (hc : match v with | .dead | .lptr .. | .lmsl .. | .stamp .. | .ment .. => False | _ => True) : VR C v x := by
  cases v <;> simp only [OV] at h hc <;> first | exact h | exact hc.elim

theorem OV.vr_cell {C : Ctx} {M : Mem} {lam : Nat → Nat} {bx : Nat → Option (List V)} {v : V} {x : Value} (h : OV C M lam bx v x) (hc : v.cell = true) : VR C v x := by
  cases v <;> simp only [OV, V.cell] at h hc <;> first | exact h | (cases hc)

/-- where an operand's rights are -/
def Rts (perm : Perm) (M : Mem) (take : List Nat) (v : V) (x : Value) : Prop :=
  (∃ t, t ∈ take ∧ Rt perm M (.t t) v x) ∨ ∀ perm' M' p, Rt perm' M' p v x

section
variable [Glob] {φ : Phi} {lam : Nat → Nat} {perm : Perm} {S : St} {a : Act} {M : Mem}

theorem FRs.ev (h : FRs φ lam perm S a M) (take : List Nat) (k : Nat) (x : Operand) :
    OV (mkC φ S.hp.length perm M) M lam S.box (evO S.tm take k x) (a.eval x) ∧ Rts perm M take (evO S.tm take k x) (a.eval x) := by
  cases x with
  | const v => exact ⟨OV.lift, .inr fun _ _ _ => Rt.lift⟩
  | global g =>
    refine ⟨?_, .inr fun _ _ _ => by unfold Rt; trivial⟩
    have hg := fun i v => h.gl g i v
    refine VR.eref (r := g) (off := 0) (fun i => match (Glob.gl g)[i]? with | some (.raw x) => x | _ => undef) (fun i hi => ?_) (fun i v hv => ?_) (fun v hv => ?_)
    · obtain ⟨x, h1, h2, h3, h4⟩ := hg i _ (List.getElem?_eq_getElem hi)
      simp only [mkC, Nat.zero_add, h3, if_true, h4, List.getElem?_eq_getElem hi, h1]
    · obtain ⟨x, h1, h2, h3, h4⟩ := hg i v hv
      simp only [hv, h1]
      exact VR.raw h2
    · obtain ⟨i, hi⟩ := List.mem_iff_getElem?.1 hv
      obtain ⟨x, h1, -⟩ := hg i v hi
      rw [h1]; rfl
  | func f => exact ⟨VR.clo (fun _ => undef) (fun _ => undef) (by simp) (fun i hi => by simp at hi) (fun i v hi => by simp at hi) (by simp) (fun i hi => by simp at hi) (fun i v hi => by simp at hi), .inr fun _ _ _ => by unfold Rt; trivial⟩
  | tmp t =>
    have ht : TV (mkC φ S.hp.length perm M) perm M lam S.box t (getT S.tm t) (a.tmps.getD t undef) := by
      unfold getT
      cases e : S.tm[t]? with
      | none => trivial
      | some v => exact h.tm t v e
    simp only [evO, Act.eval]
    split
    · rename_i hc
      exact ⟨ht.ov, .inl ⟨t, by simpa using hc, ht.rt⟩⟩
    · exact ⟨ht.ov.strip, .inr fun _ _ _ => Rt.strip⟩

omit [Glob] in
theorem killed {ts : List Nat} : ∀ {tm : List V} {t : Nat} {v : V}, t ∈ ts → ((ts.map fun t => (t, V.dead)).foldl (fun tm p => tm.set p.1 p.2) tm)[t]? = some v → v = .dead := by
  have stays : ∀ (ts : List Nat) (tm : List V) (t : Nat), (∀ v, tm[t]? = some v → v = V.dead) → ∀ v, ((ts.map fun t => (t, V.dead)).foldl (fun tm p => tm.set p.1 p.2) tm)[t]? = some v → v = .dead := by
    intro ts
    induction ts with
    | nil => exact fun tm t h v hv => h v hv
    | cons u ts ih =>
      intro tm t h v hv
      refine ih (tm.set u .dead) t (fun v hv => ?_) v hv
      rw [List.getElem?_set] at hv
      split at hv
      · split at hv
        · cases hv; rfl
        · cases hv
      · exact h v hv
  induction ts with
  | nil => intro tm t v h; simp at h
  | cons u ts ih =>
    intro tm t v h hv
    by_cases e : t = u
    · subst e
      refine stays ts (tm.set t .dead) t (fun v hv => ?_) v hv
      rw [List.getElem?_set] at hv
      simp at hv
      exact hv.2.symm
    · exact ih (tm := tm.set u .dead) (by simpa [e] using h) hv

/-- what a run leaves, beside the state -/
structure Nx [Glob] (φ : Phi) (perm : Perm) (S : St) (w : World) (S' : St) (a' : Act) (w' : World) : Prop where
  out : ∃ φ' lam' perm', FRs φ' lam' perm' S' a' w'.heap ∧ Evo w.heap perm w'.heap perm' ∧ (∀ b, b < S.hp.length → φ' b = φ b) ∧ (∀ g v x, φ.hd g v = some x → φ'.hd g v = some x)
  hp : S.hp.length ≤ S'.hp.length
  os : w'.os = w.os
  tape : w'.tape = w.tape
  output : w'.output = w.output

def St.apply (S : St) (u : Upd) : St :=
  { tm := u.tw.foldl (fun tm p => tm.set p.1 p.2) S.tm
    bx := match u.bw with | some (s, cs) => setBx S.bx s cs | none => S.bx
    hp := match u.hw with | some h => h | none => S.hp }

omit [Glob] in
theorem OV.mono {C C' : Ctx} {M : Mem} {lam : Nat → Nat} {bx : Nat → Option (List V)} {v : V} {x : Value} (hC : C.le C') (h : OV C M lam bx v x) : OV C' M lam bx v x := by
  cases v <;> simp only [OV] at h ⊢
  case lptr => exact h
  case lmsl => exact h
  case stamp m i => exact h.mono hC (fun _ _ _ => rfl)
  case ment v m i =>
    obtain ⟨y, z, h1, h2, h3⟩ := h
    exact ⟨y, z, h1, h2.mono hC, h3.mono hC (fun _ _ _ => rfl)⟩
  all_goals exact VR.mono hC h

omit [Glob] in
theorem dstw (tm : List V) (ts : List Nat) (l : List (Nat × V)) :
    ((ts.map fun t => (t, V.dead)) ++ l).foldl (fun tm p => tm.set p.1 p.2) tm = l.foldl (fun tm p => tm.set p.1 p.2) ((ts.map fun t => (t, V.dead)).foldl (fun tm p => tm.set p.1 p.2) tm) := by
  rw [List.foldl_append]

/-- a result, laid -/
theorem FRs.result (h : FRs φ lam perm S a M) (take : List Nat) (dst : Option Nat) {v : V} {x : Value}
    (hv : OV (mkC φ S.hp.length perm M) M lam S.box v x) (hr : Rts perm M take v x) :
    ∃ perm', FRs φ lam perm' { S with tm := ((take.map fun t => (t, V.dead)) ++ (match dst with | some d => [(d, v)] | none => [])).foldl (fun tm p => tm.set p.1 p.2) S.tm } (a.put dst x) M ∧
      Evo M perm M perm' := by
  have hk := h.kills take
  cases dst with
  | none =>
    simp only [List.append_nil]
    exact ⟨perm, hk, Evo.refl _ _⟩
  | some d =>
    rw [dstw]
    simp only [List.foldl_cons, List.foldl_nil]
    rcases hr with ⟨t, ht, hr⟩ | hr
    · have hd : ({ S with tm := (take.map fun t => (t, V.dead)).foldl (fun tm p => tm.set p.1 p.2) S.tm } : St).deadAt (.t t) := fun v hv => killed ht hv
      refine ⟨renP perm (.t t) (.t d), (hk.ren hd (.t d)).setT ?_, Evo.ren _ _ _⟩
      exact TV.of (hv.mono ((Evo.ren M (.t t) (.t d)).le (fun _ _ => rfl) (Nat.le_refl _))) hr.ren_same
    · exact ⟨perm, hk.setT (TV.of hv (hr _ _ _)), Evo.refl _ _⟩
end
end Go.Hx

/-
  Hx, part 7: the types' facts, and what operations come to.
-/
namespace Go.Hx
open Go

structure ZeroR (zs : List V) (z : Value) : Prop where
  len : z.cells.size = zs.length
  each : ∀ (i : Nat) (v : V), zs[i]? = some v → v.cell = true ∧ ∃ x, z.cells[i]? = some x ∧ (∀ C, VR C v x) ∧ ∀ perm M p, Rt perm M p v x

structure TIok (P : Program) (t : Nat) (i : TI) : Prop where
  info : ∃ inf, P.info? t = some inf ∧ inf.size = i.size ∧ inf.bytes = i.bytes ∧ ∃ z, inf.zero = some z ∧ ZeroR i.zero z ∧ i.zero.length = i.size ∧ (i.agg = true → ∃ cs, z = .agg cs) ∧ (i.agg = false → one z = true)
  agg : i.agg = (match P.underlying t with | some (.struct _) | some (.array _ _) => true | _ => false)
  und : (P.underlying t).isSome = true
  sh : match i.sh with
    | .int k => P.underlying t = some (.int k)
    | .bool => P.underlying t = some .bool
    | .str => P.underlying t = some .string
    | .slice e k => P.underlying t = some (.slice e) ∧ ∃ inf, P.info? e = some inf ∧ inf.size = k
    | .arr n e k => P.underlying t = some (.array n e) ∧ ∃ inf, P.info? e = some inf ∧ inf.size = k
    | .struct fs => ∃ fields, P.underlying t = some (.struct fields) ∧ fields.size = fs.length ∧ ∀ (j : Nat) f, fs[j]? = some f → ∃ fd : Field, fields[j]? = some fd ∧ fd.offset = f.1 ∧ fd.type = f.2.2 ∧ ∃ inf, P.info? fd.type = some inf ∧ inf.size = f.2.1
    | .ptr => ∃ e, P.underlying t = some (.pointer e)
    | .map k e => P.underlying t = some (.map k e)
    | .fn => True
    | .other => True

/-- the table of types is the program's -/
def EnvOK (P : Program) (E : Env) : Prop := ∀ t, (E.ti t).ok = true → TIok P t (E.ti t)

section
variable {P : Program}

theorem rU {t : Nat} {d : TypeDesc} (h : P.underlying t = some d) (w : World) : (underlying t).run P w = .ok d w := by
  simp [underlying, program, Sem.run, Sem.run_bind, h]

theorem rI {t : Nat} {i : TypeInfo} (h : P.info? t = some i) (w : World) : (typeInfo t).run P w = .ok i w := by
  simp [typeInfo, program, Sem.run, Sem.run_bind, h]

theorem rS {t : Nat} {i : TypeInfo} (h : P.info? t = some i) (w : World) : (sizeOf t).run P w = .ok i.size w := by
  simp [sizeOf, rI h]

theorem rZ {t : Nat} {i : TypeInfo} {z : Value} (h : P.info? t = some i) (hz : i.zero = some z) (w : World) : (zeroValue t).run P w = .ok z w := by
  simp [zeroValue, rI h, hz]

theorem rA {t : Nat} {i : TI} (h : TIok P t i) (w : World) : (isAgg t).run P w = .ok i.agg w := by
  obtain ⟨d, hd⟩ := Option.isSome_iff_exists.1 h.und
  have := h.agg
  rw [hd] at this
  simp only [isAgg, Sem.run_bind, rU hd, Result.andThen_ok]
  rw [this]
  cases d <;> rfl

theorem addA (r o n : Nat) : (⟨r, o, none⟩ : Addr).add n = ⟨r, o + n, none⟩ := by
  unfold Addr.add; split
  · rename_i h; subst h; rfl
  · rfl

/-- a row that can be read -/
def Reads (C : Ctx) (M : Mem) (r off : Nat) (cs : List V) : Prop :=
  ∀ (i : Nat) (v : V), cs[i]? = some v → ∃ x, cellAt M r (off + i) = some x ∧ (v = .dead ∨ (v.cell = true ∧ VR C v x))

theorem V.strip_cell {v : V} (h : v.cell = true) : v.strip.cell = true := by cases v <;> simp_all [V.strip, V.cell]

theorem loadV_sound {C : Ctx} {w : World} {t : Nat} {ti : TI} (ht : TIok P t ti) {r off o : Nat} {cs : List V} {v : V} (hr : Reads C w.heap r off cs) (hl : loadV ti cs o = some v) :
    ∃ x, (loadVar t ⟨r, off + o, none⟩).run P w = .ok x w ∧ VR C v x ∧ ∀ perm M p, Rt perm M p v x := by
  obtain ⟨inf, hi, hsz, -, -⟩ := ht.info
  unfold loadV at hl
  split at hl
  · rename_i hagg
    split at hl
    · rename_i hc
      obtain ⟨hlen, hdead⟩ := hc
      cases hl
      have hread : ∀ j, j < ti.size → ∃ x v, cs[o + j]? = some v ∧ w.cell? ((⟨r, off + o, none⟩ : Addr).add j) = some x ∧ v.cell = true ∧ VR C v x := fun j hj => by
        have hlt : o + j < cs.length := by omega
        obtain ⟨x, hx, hv⟩ := hr (o + j) cs[o + j] (by simp [hlt])
        refine ⟨x, cs[o + j], by simp [hlt], by rw [addA, cell?_eq, Nat.add_assoc]; exact hx, ?_⟩
        rcases hv with hd | hv
        · exfalso
          have : cs[o + j] ∈ (cs.drop o).take ti.size := by
            rw [List.mem_iff_getElem?]
            exact ⟨j, by rw [List.getElem?_take, if_pos hj, List.getElem?_drop]; simp [hlt]⟩
          have := List.all_eq_true.1 hdead _ this
          rw [hd] at this; simp [V.isDead] at this
        · exact hv
      let f : Nat → Value := fun j => (w.cell? ((⟨r, off + o, none⟩ : Addr).add j)).getD undef
      have hf : ∀ j, j < ti.size → w.cell? ((⟨r, off + o, none⟩ : Addr).add j) = some (f j) := fun j hj => by
        obtain ⟨x, v, _, hx, _⟩ := hread j hj
        simp only [f, hx, Option.getD_some]
      refine ⟨.agg ((List.range ti.size).map f).toArray, ?_, ?_, fun _ _ _ => by unfold Rt; trivial⟩
      · simp only [loadVar, Sem.run_bind, rA ht, Result.andThen_ok, hagg, if_true, rS hi, hsz, run_loadCells w _ _ f hf, Sem.run_pure]
      · refine VR.agg f (by simp; omega) (fun j hj => ?_) (fun j v hj => ?_) (fun v hv => ?_)
        · have hj' : j < ti.size := by simp at hj; omega
          simp [hj']
        · simp only [List.getElem?_map, List.getElem?_take, List.getElem?_drop] at hj
          split at hj
          · rename_i hjs
            obtain ⟨x, v0, hv0, hx, _, hvr⟩ := hread j hjs
            rw [hv0] at hj
            simp at hj; subst hj
            have := hf j hjs
            rw [hx] at this
            rw [← Option.some.inj this]
            exact hvr.strip
          · simp at hj
        · rw [List.mem_iff_getElem?] at hv
          obtain ⟨j, hj⟩ := hv
          simp only [List.getElem?_map, List.getElem?_take, List.getElem?_drop] at hj
          split at hj
          · rename_i hjs
            obtain ⟨x, v0, hv0, hx, hc, hvr⟩ := hread j hjs
            rw [hv0] at hj
            simp at hj; subst hj
            exact V.strip_cell hc
          · simp at hj
    · cases hl
  · rename_i hagg
    have hagg : ti.agg = false := by simpa using hagg
    split at hl
    · rename_i v0 hv0
      split at hl
      · cases hl
      · rename_i hd
        cases hl
        obtain ⟨x, hx, hv⟩ := hr o v0 hv0
        refine ⟨x, ?_, ?_, fun _ _ _ => Rt.strip⟩
        · simp only [loadVar, Sem.run_bind, rA ht, Result.andThen_ok, hagg, Bool.false_eq_true, if_false, run_load, cell?_eq, hx]
        · rcases hv with hv | hv
          · subst hv; simp [V.isDead] at hd
          · exact hv.2.strip
    · cases hl

theorem RowR.reads {C : Ctx} {perm : Perm} {M : Mem} {p : Nat → Pos} {cs : List V} {arr : Array Value} {r elem : Nat} {fz : Nat × Nat} (h : RowR C perm M p cs arr)
    (hM : M[r]? = some (.cells arr elem fz)) : Reads C M r 0 cs := fun i v hv => by
  obtain ⟨x, hx, hc⟩ := h.2 i v hv
  refine ⟨x, by rw [cellAt_cells hM, Nat.zero_add]; exact hx, ?_⟩
  rcases hc with hd | ⟨h1, h2, -⟩
  · exact .inl hd
  · exact .inr ⟨h1, h2⟩

theorem rd_cell {φ : Phi} {nb : Nat} {perm : Perm} {M : Mem} {r o : Nat} {x : Value} (h : (mkC φ nb perm M).rd r o = some x) : cellAt M r o = some x := by
  simp only [mkC] at h
  split at h
  · exact h
  · cases h

theorem eref_reads {φ : Phi} {nb : Nat} {perm : Perm} {M : Mem} {cs : List V} {o : Nat} {x : Value} (h : VR (mkC φ nb perm M) (.eref cs o) x) :
    ∃ r off, x = .pointer (some ⟨r, off + o, none⟩) ∧ Reads (mkC φ nb perm M) M r off cs := by
  cases h with
  | eref vals h1 h2 h3 => exact ⟨_, _, rfl, fun i v hv => ⟨vals i, rd_cell (h1 i (by
      rcases Nat.lt_or_ge i cs.length with hlt | hge
      · exact hlt
      · rw [List.getElem?_eq_none hge] at hv; cases hv)), .inr ⟨h3 v (List.mem_of_getElem? hv), h2 i v hv⟩⟩⟩

end
end Go.Hx

/-
  Hx, part 8: operations that leave memory as it is.
-/
namespace Go.Hx
open Go

def Does (P : Program) (o : Oper) (a : Act) (w : World) (R : Value → World → Prop) : Prop :=
  (∃ x w', (execOp a.eval o).run P w = .ok (.value x) w' ∧ R x w') ∨ (∃ w', (execOp a.eval o).run P w = .ok .skip w' ∧ R undef w') ∨ False

def R0 [Glob] (φ : Phi) (perm : Perm) (S : St) (a : Act) (w : World) (o : Oper) (K : Upd → Prop) (x : Value) (w' : World) : Prop :=
  ∃ u, K u ∧ Nx φ perm S w (S.apply u) (a.put o.dst x) w'

section
variable {P : Program} {E : Env} [Glob] {φ : Phi} {lam : Nat → Nat} {perm : Perm} {S : St} {a : Act} {w : World} {o : Oper} {K : Upd → Prop}

theorem does_val (h : FRs φ lam perm S a w.heap) {take : List Nat} {v : V} {x : Value} (hrun : (execOp a.eval o).run P w = .ok (.value x) w)
    (hv : OV (mkC φ S.hp.length perm w.heap) w.heap lam S.box v x) (hr : Rts perm w.heap take v x) (hK : (Out.val o.dst take v).wp K) : Does P o a w (R0 φ perm S a w o K) := by
  refine .inl ⟨x, w, hrun, _, hK, ?_⟩
  obtain ⟨perm', h1, h2⟩ := h.result take o.dst hv hr
  exact ⟨⟨φ, lam, perm', h1, h2, fun _ _ => rfl, fun _ _ _ h => h⟩, Nat.le_refl _, rfl, rfl, rfl⟩

theorem does_live (h : FRs φ lam perm S a w.heap) {take : List Nat} {v : V} {x : Value} (hrun : (execOp a.eval o).run P w = .ok (.value x) w)
    (hv : OV (mkC φ S.hp.length perm w.heap) w.heap lam S.box v x) (hr : Rts perm w.heap take v x) (hK : (Out.live o.dst take v).wp K) : Does P o a w (R0 φ perm S a w o K) := by
  unfold Out.live at hK
  split at hK
  · exact hK.elim
  · exact does_val h hrun hv hr hK

omit [Glob] in
theorem Rts.non {take : List Nat} {v : V} {x : Value} {M : Mem} (hv : match v with | .sl .. => False | _ => True) : Rts perm M take v x :=
  .inr fun _ _ _ => by unfold Rt; split <;> first | trivial | (simp at hv)

omit [Glob] in
theorem Rts.strip {take : List Nat} {v : V} {x : Value} {M : Mem} : Rts perm M take v.strip x := .inr fun _ _ _ => Rt.strip

theorem s_move {oa : OA} (h : FRs φ lam perm S a w.heap) {x : Operand} (hop : o.op = .move x ∨ o.op = .assign x)
    (hK : (Out.live o.dst oa.take (evO S.tm oa.take (E.kOf o.type) x)).wp K) : Does P o a w (R0 φ perm S a w o K) := by
  obtain ⟨h1, h2⟩ := h.ev oa.take (E.kOf o.type) x
  refine does_live h ?_ h1 h2 hK
  rcases hop with hop | hop <;> simp [execOp, hop]

omit [Glob] in
theorem OV.raw {C : Ctx} {M : Mem} {bx : Nat → Option (List V)} {y x : Value} (h : OV C M lam bx (.raw y) x) : x = y := by
  simp only [OV] at h; cases h; rfl

omit [Glob] in
theorem VR.ptrI {C : Ctx} {b o : Nat} {x : Value} (h : VR C (.ptr b o) x) : x = .pointer (some ⟨C.φ b, o, none⟩) ∧ b < C.nb := by
  cases h; exact ⟨rfl, ‹_›⟩

omit [Glob] in
theorem VR.mapI {C : Ctx} {m : Nat} {x : Value} (h : VR C (.map m) x) : x = .map (some (C.φ m)) ∧ m < C.nb := by
  cases h; exact ⟨rfl, ‹_›⟩

omit [Glob] in
theorem VR.gptrI {C : Ctx} {g ver j : Nat} {x : Value} (h : VR C (.gptr g ver j) x) : ∃ r off cap k, C.hd g ver = some (r, off, cap, k) ∧ x = .pointer (some ⟨r, off + j, none⟩) := by
  cases h; exact ⟨_, _, _, _, ‹_›, rfl⟩

omit [Glob] in
theorem VR.gsI {C : Ctx} {g ver o n : Nat} {x : Value} (h : VR C (.gs g ver o n) x) : ∃ r off cap k, C.hd g ver = some (r, off, cap, k) ∧ o + n ≤ cap ∧ x = .slice (some ⟨r, off + o * k, none⟩) n (cap - o) := by
  cases h; exact ⟨_, _, _, _, ‹_›, ‹_›, rfl⟩

omit [Glob] in
theorem VR.ov {C : Ctx} {M : Mem} {bx : Nat → Option (List V)} {v : V} {x : Value} (h : VR C v x) : OV C M lam bx v x := by
  cases v <;> simp only [OV] <;> first | exact h | trivial | (cases h)

omit [Glob] in
theorem OV.bool {C : Ctx} {M : Mem} {bx : Nat → Option (List V)} {v : V} {x : Value} {b : Bool} (h : OV C M lam bx v x) (hb : v.bool? = some b) : x = .bool b := by
  cases v <;> simp only [V.bool?] at hb <;> try (cases hb; done)
  case tt => cases hb; simp only [OV] at h; cases h; rfl
  case ff => cases hb; simp only [OV] at h; cases h; rfl
  case raw y =>
    have e : x = y := OV.raw h
    subst e
    cases x <;> simp only at hb <;> first | (cases hb; done) | (cases hb; rfl)

omit [Glob] in
theorem OV.int {C : Ctx} {M : Mem} {bx : Nat → Option (List V)} {v : V} {x : Value} {k : IntKind} {n : Int} (h : OV C M lam bx v x) (hb : v.int? = some (k, n)) : x = .int k n := by
  cases v <;> simp only [V.int?] at hb <;> try (cases hb; done)
  case raw y =>
    have e : x = y := OV.raw h
    subst e
    cases x <;> simp only at hb <;> first | (cases hb; done) | (cases hb; rfl)

theorem s_pick {oa : OA} (h : FRs φ lam perm S a w.heap) {c x y : Operand} (hop : o.op = .pick c x y)
    (hK : (match evO S.tm oa.take 0 c with
      | .tt => Out.live o.dst oa.take (evO S.tm oa.take 0 x).strip
      | .ff => Out.live o.dst oa.take (evO S.tm oa.take 0 y).strip
      | .raw (.bool q) => .pick q (Out.live o.dst oa.take (evO S.tm oa.take 0 x).strip) (Out.live o.dst oa.take (evO S.tm oa.take 0 y).strip)
      | _ => .fail).wp K) : Does P o a w (R0 φ perm S a w o K) := by
  obtain ⟨hc, -⟩ := h.ev oa.take 0 c
  obtain ⟨hx, -⟩ := h.ev oa.take 0 x
  obtain ⟨hy, -⟩ := h.ev oa.take 0 y
  have key : ∀ b : Bool, a.eval c = .bool b → (Out.live o.dst oa.take (if b then (evO S.tm oa.take 0 x).strip else (evO S.tm oa.take 0 y).strip)).wp K → Does P o a w (R0 φ perm S a w o K) := by
    intro b hb hK
    cases b
    · refine does_live h (x := a.eval y) (by simp [execOp, hop, hb, asBool]) (hy.strip) Rts.strip (by simpa using hK)
    · refine does_live h (x := a.eval x) (by simp [execOp, hop, hb, asBool]) (hx.strip) Rts.strip (by simpa using hK)
  split at hK
  · rename_i he; rw [he] at hc; exact key true (OV.bool hc rfl) (by simpa using hK)
  · rename_i he; rw [he] at hc; exact key false (OV.bool hc rfl) (by simpa using hK)
  · rename_i q he
    rw [he] at hc
    cases q
    · exact key false (OV.bool hc rfl) (by simpa using hK.2 rfl)
    · exact key true (OV.bool hc rfl) (by simpa using hK.1 rfl)
  · exact hK.elim

theorem s_nilCheck {oa : OA} (h : FRs φ lam perm S a w.heap) {x : Operand} (hop : o.op = .nilCheck x)
    (hK : (if nonNil (evO S.tm oa.take 0 x) then Out.val o.dst oa.take (evO S.tm oa.take 0 x) else .fail).wp K) : Does P o a w (R0 φ perm S a w o K) := by
  obtain ⟨hx, hr⟩ := h.ev oa.take 0 x
  split at hK
  · rename_i hn
    generalize evO S.tm oa.take 0 x = v at *
    refine does_val h (x := a.eval x) ?_ hx hr hK
    cases v <;> simp only [nonNil] at hn <;> (try (cases hn; done)) <;> simp only [OV] at hx
    case ptr b o => simp [execOp, hop, hx.ptrI.1]
    case lptr s o => simp [execOp, hop, hx.2]
    case eref cs o => obtain ⟨r, off, e, -⟩ := eref_reads hx; simp [execOp, hop, e]
    case map m => simp [execOp, hop, hx.mapI.1]
    case gptr g ver j => obtain ⟨r, off, cap, k, -, e⟩ := VR.gptrI hx; simp [execOp, hop, e]
  · exact hK.elim

omit [Glob] in
theorem run_valOp {s : Sem Value} (hex : execOp a.eval o = (do pure (.value (← s)))) {x : Value} (hs : s.run P w = .ok x w) : (execOp a.eval o).run P w = .ok (.value x) w := by
  rw [hex]; simp [hs]

theorem s_unOp {oa : OA} (h : FRs φ lam perm S a w.heap) {op : UnOp} {t : Nat} {x : Operand} (hop : o.op = .unOp op t x)
    (hK : (match op, evO S.tm oa.take 0 x with
    | .not, .tt => Out.val o.dst oa.take .ff
    | .not, .ff => .val o.dst oa.take .tt
    | .not, .raw (.bool b) => .val o.dst oa.take (mkB (!b))
    | .neg, .raw (.int k n) => .val o.dst oa.take (.raw (.int k (k.wrap (0 - n))))
    | _, _ => .fail).wp K) : Does P o a w (R0 φ perm S a w o K) := by
  obtain ⟨hx, -⟩ := h.ev oa.take 0 x
  split at hK
  · rename_i he; rw [he] at hx
    exact does_val h (x := .bool false) (by simp [execOp, hop, OV.bool hx rfl, Op.unary]) VR.ff.ov (Rts.non trivial) hK
  · rename_i he; rw [he] at hx
    exact does_val h (x := .bool true) (by simp [execOp, hop, OV.bool hx rfl, Op.unary]) VR.tt.ov (Rts.non trivial) hK
  · rename_i b he; rw [he] at hx
    exact does_val h (x := .bool (!b)) (by simp [execOp, hop, OV.raw hx, Op.unary]) (VR.raw rfl).ov (Rts.non trivial) hK
  · rename_i k n he; rw [he] at hx
    exact does_val h (x := .int k (k.wrap (0 - n))) (by simp [execOp, hop, OV.raw hx, Op.unary, Op.intArith]) (VR.raw rfl).ov (Rts.non trivial) hK
  · exact hK.elim

omit [Glob] in
theorem OV.tup {C : Ctx} {M : Mem} {bx : Nat → Option (List V)} {vs : List V} {x : Value} (h : OV C M lam bx (.tup vs) x) : ∃ arr, x = .tuple arr ∧ arr.size = vs.length ∧ ∀ (i : Nat) v, vs[i]? = some v → ∃ y, arr[i]? = some y ∧ VR C v y := by
  simp only [OV] at h
  cases h with
  | tup vals h1 h2 h3 => exact ⟨_, rfl, h1, fun i v hv => ⟨vals i, h2 i (by
      rcases Nat.lt_or_ge i vs.length with hlt | hge
      · exact hlt
      · rw [List.getElem?_eq_none hge] at hv; cases hv), h3 i v hv⟩⟩

omit [Glob] in
theorem OV.agg {C : Ctx} {M : Mem} {bx : Nat → Option (List V)} {vs : List V} {x : Value} (h : OV C M lam bx (.agg vs) x) : ∃ arr, x = .agg arr ∧ arr.size = vs.length ∧ (∀ v ∈ vs, v.cell = true) ∧ ∀ (i : Nat) v, vs[i]? = some v → ∃ y, arr[i]? = some y ∧ VR C v y := by
  simp only [OV] at h
  cases h with
  | agg vals h1 h2 h3 hc => exact ⟨_, rfl, h1, hc, fun i v hv => ⟨vals i, h2 i (by
      rcases Nat.lt_or_ge i vs.length with hlt | hge
      · exact hlt
      · rw [List.getElem?_eq_none hge] at hv; cases hv), h3 i v hv⟩⟩

theorem s_extract {oa : OA} (h : FRs φ lam perm S a w.heap) {x : Operand} {i : Nat}
    (hK : (match evO S.tm oa.take 0 x with
     | .tup vs => (match vs[i]? with | some v => Out.live o.dst oa.take v.strip | none => .fail)
     | .ment v r j => (match i with | 0 => Out.live o.dst oa.take v.strip | 1 => Out.val o.dst oa.take (.stamp r j) | _ => .fail)
     | _ => .fail).wp K) (hop : o.op = .extract x i) : Does P o a w (R0 φ perm S a w o K) := by
  obtain ⟨hx, -⟩ := h.ev oa.take 0 x
  split at hK
  · rename_i vs he
    rw [he] at hx
    obtain ⟨arr, e, -, hall⟩ := hx.tup
    split at hK
    · rename_i v hv
      obtain ⟨y, hy, hvr⟩ := hall i v hv
      exact does_live h (x := y) (by simp [execOp, hop, e, Instr.extract, hy]) (hvr.ov.strip) Rts.strip hK
    · exact hK.elim
  · rename_i v r j he
    rw [he] at hx
    obtain ⟨y, z, e, h1, h2⟩ := hx
    split at hK
    · have hop' := ‹o.op = Op.extract x 0›
      exact does_live h (x := y) (by simp [execOp, hop', e, Instr.extract]) h1.ov.strip Rts.strip hK
    · have hop' := ‹o.op = Op.extract x 1›
      exact does_val h (v := .stamp r j) (x := z) (by simp [execOp, hop', e, Instr.extract]) h2 (Rts.non trivial) hK
    · exact hK.elim
  · exact hK.elim

theorem captured_vr {oa : OA} (h : FRs φ lam perm S a w.heap) (xs : Array Operand) (hall : (xs.toList.map fun x => (evO S.tm oa.take 0 x).strip).all V.cell = true) (i : Nat) (v : V)
    (hv : (xs.toList.map fun x => (evO S.tm oa.take 0 x).strip)[i]? = some v) : VR (mkC φ S.hp.length perm w.heap) v (((xs.map a.eval)[i]?).getD undef) := by
  simp only [List.getElem?_map, Array.getElem?_toList] at hv
  cases hci : xs[i]? with
  | none => rw [hci] at hv; cases hv
  | some y =>
    rw [hci] at hv
    simp only [Option.map_some, Option.some.injEq] at hv
    subst hv
    simp only [Array.getElem?_map, hci, Option.map_some, Option.getD_some]
    refine (h.ev oa.take 0 y).1.strip.vr_cell ?_
    exact List.all_eq_true.1 hall ((evO S.tm oa.take 0 y).strip) (by
      simp only [List.mem_map]
      exact ⟨y, by rw [Array.mem_toList_iff]; exact Array.mem_of_getElem? hci, rfl⟩)

theorem s_makeFunc {oa : OA} (h : FRs φ lam perm S a w.heap) {f : Nat} {first captured : Array Operand} (hop : o.op = .makeFunc (.func f) first captured)
    (hK : (let fs := first.toList.map fun x => (evO S.tm oa.take 0 x).strip
      let vs := captured.toList.map fun x => (evO S.tm oa.take 0 x).strip
      if fs.all V.cell ∧ vs.all V.cell then Out.val o.dst oa.take (.clo f fs vs) else .fail).wp K) : Does P o a w (R0 φ perm S a w o K) := by
  dsimp only at hK
  split at hK
  · rename_i hc
    obtain ⟨h0, hall⟩ := hc
    refine does_val h (x := .func (.func f) (first.map a.eval) (captured.map a.eval)) (by simp [execOp, hop, Instr.makeFunc]) ?_ (Rts.non trivial) hK
    refine VR.ov ?_
    refine VR.clo (fun i => ((first.map a.eval)[i]?).getD undef) (fun i => ((captured.map a.eval)[i]?).getD undef) (by simp) (fun i hi => ?_) (captured_vr h first h0) (by simp) (fun i hi => ?_) (captured_vr h captured hall)
    · have hi' : i < first.size := by simpa using hi
      simp [hi']
    · have hi' : i < captured.size := by simpa using hi
      simp [hi']
  · exact hK.elim

end
end Go.Hx

/-
  Hx, part 9: addresses, parts, comparisons.
-/
namespace Go.Hx
open Go

section
variable {P : Program} {E : Env} [Glob] {φ : Phi} {lam : Nat → Nat} {perm : Perm} {S : St} {a : Act} {w : World} {o : Oper} {K : Upd → Prop}

theorem does_opt (h : FRs φ lam perm S a w.heap) {take : List Nat} {r : Option V} (hK : (Out.opt o.dst take r).wp K)
    (hall : ∀ v, r = some v → ∃ x, (execOp a.eval o).run P w = .ok (.value x) w ∧ OV (mkC φ S.hp.length perm w.heap) w.heap lam S.box v x ∧ Rts perm w.heap take v x) :
    Does P o a w (R0 φ perm S a w o K) := by
  cases r with
  | none => exact hK.elim
  | some v =>
    obtain ⟨x, h1, h2, h3⟩ := hall v rfl
    exact does_val h h1 h2 h3 hK

omit [Glob] in
theorem TIok.sh' {t : Nat} {E : Env} (hE : EnvOK P E) {s : Sh} (hs : (E.ti t).sh = s) (hne : s ≠ .other) : TIok P t (E.ti t) :=
  hE t (by unfold TI.ok; rw [hs]; cases s <;> first | rfl | exact absurd rfl hne)

omit [Glob] in
theorem OV.addOff {C : Ctx} {M : Mem} {bx : Nat → Option (List V)} {v u : V} {x : Value} {n : Nat} (h : OV C M lam bx v x) (hu : addOff v n = some u) :
    ∃ r q, x = .pointer (some ⟨r, q, none⟩) ∧ OV C M lam bx u (.pointer (some ⟨r, q + n, none⟩)) := by
  cases v <;> simp only [Hx.addOff] at hu <;> try (cases hu; done)
  case ptr b o =>
    cases hu
    obtain ⟨e, hb⟩ := VR.ptrI h
    exact ⟨_, _, e, VR.ptr hb⟩
  case lptr s o =>
    cases hu
    exact ⟨_, _, h.2, h.1, rfl⟩
  case eref cs o =>
    cases hu
    simp only [OV] at h
    generalize hx : V.eref cs o = vv at h
    cases h <;> try (cases hx; done)
    case eref vals h1 h2 h3 =>
      cases hx
      exact ⟨_, _, rfl, by rw [Nat.add_assoc]; exact VR.eref vals h1 h2 h3⟩
  case gptr g ver j =>
    cases hu
    obtain ⟨r, off, cap, k, h1, e⟩ := VR.gptrI h
    exact ⟨_, _, e, by rw [Nat.add_assoc]; exact VR.gptr h1⟩

theorem s_fieldAddr {oa : OA} (hE : EnvOK P E) (h : FRs φ lam perm S a w.heap) {t f : Nat} {x : Operand} (hop : o.op = .fieldAddr t x f)
    (hK : (match (E.ti t).sh with
     | .struct fs => (match fs[f]? with
       | some (off, size, _) => if size = 0 then Out.fail else .opt o.dst oa.take (addOff (evO S.tm oa.take 0 x) off)
       | none => .fail)
     | _ => .fail).wp K) : Does P o a w (R0 φ perm S a w o K) := by
  obtain ⟨hx, -⟩ := h.ev oa.take 0 x
  split at hK
  · rename_i fs hs
    have ht := (TIok.sh' hE hs (by simp)).sh
    rw [hs] at ht
    obtain ⟨fields, hu, hl, hf⟩ := ht
    split at hK
    · rename_i off size ft hfs
      split at hK
      · exact hK.elim
      · rename_i hz
        obtain ⟨fd, h1, h2, h3, inf, h4, h5⟩ := hf f _ hfs
        refine does_opt h hK fun v hv => ?_
        obtain ⟨r, q, e, hov⟩ := hx.addOff hv
        refine ⟨.pointer (some ⟨r, q + off, none⟩), ?_, hov, Rts.non (by cases hv' : evO S.tm oa.take 0 x <;> rw [hv'] at hv <;> simp only [Hx.addOff] at hv <;> cases hv <;> trivial)⟩
        have hsz : inf.size ≠ 0 := by rw [h5]; exact hz
        simp [execOp, hop, Instr.fieldAt, rU hu, h1, e, Instr.sureAddr, fieldPlace, rS h4, hsz, addA, h2]
    · exact hK.elim
  · exact hK.elim

theorem s_field {oa : OA} (hE : EnvOK P E) (h : FRs φ lam perm S a w.heap) {t f : Nat} {x : Operand} (hop : o.op = .field t x f)
    (hK : (match (E.ti t).sh, evO S.tm oa.take 0 x with
     | .struct fs, .agg cs => (match fs[f]? with
       | some (off, _, ft) => if (E.ti ft).ok then Out.opt o.dst oa.take (loadV (E.ti ft) cs off) else .fail
       | none => .fail)
     | _, _ => .fail).wp K) : Does P o a w (R0 φ perm S a w o K) := by
  obtain ⟨hx, -⟩ := h.ev oa.take 0 x
  split at hK
  · rename_i fs cs hs he
    rw [he] at hx
    have ht := (TIok.sh' hE hs (by simp)).sh
    rw [hs] at ht
    obtain ⟨fields, hu, hl, hf⟩ := ht
    obtain ⟨arr, e, hsz, hcell, hall⟩ := hx.agg
    split at hK
    · rename_i off size ft hfs
      split at hK
      · rename_i hok
        obtain ⟨fd, h1, h2, h3, inf, h4, h5⟩ := hf f _ hfs
        refine does_opt h hK fun v hv => ?_
        have htf := hE ft hok
        obtain ⟨inf', hi', hsz', -, -⟩ := htf.info
        unfold loadV at hv
        split at hv
        · rename_i hagg
          split at hv
          · rename_i hc
            cases hv
            refine ⟨.agg (arr.extract off (off + (E.ti ft).size)), ?_, VR.ov ?_, Rts.non trivial⟩
            · simp [execOp, hop, Instr.field, rU hu, h1, e, asAgg, part, h3, rA htf, hagg, rS hi', hsz', h2]
            · refine VR.agg (fun i => (arr[off + i]?).getD undef) (by simp; omega) (fun i hi => ?_) (fun i u hu' => ?_) (fun u hu' => ?_)
              · simp at hi
                have : off + i < arr.size := by omega
                simp [Array.getElem?_extract, this]; omega
              · simp only [List.getElem?_map, List.getElem?_take, List.getElem?_drop] at hu'
                split at hu'
                · cases hci : cs[off + i]? with
                  | none => rw [hci] at hu'; cases hu'
                  | some u0 =>
                    rw [hci] at hu'; simp at hu'; subst hu'
                    obtain ⟨y, hy, hvr⟩ := hall _ _ hci
                    rw [hy]; exact hvr.strip
                · simp at hu'
              · simp only [List.mem_map] at hu'
                obtain ⟨u0, hu0, rfl⟩ := hu'
                exact V.strip_cell (hcell _ (List.mem_of_mem_drop (List.mem_of_mem_take hu0)))
          · cases hv
        · rename_i hagg
          have hagg : (E.ti ft).agg = false := by simpa using hagg
          split at hv
          · rename_i v0 hv0
            split at hv
            · cases hv
            · cases hv
              obtain ⟨y, hy, hvr⟩ := hall _ _ hv0
              refine ⟨y, ?_, hvr.strip.ov, Rts.strip⟩
              simp [execOp, hop, Instr.field, rU hu, h1, e, asAgg, part, h3, rA htf, hagg, h2, hy]
          · cases hv
      · exact hK.elim
    · exact hK.elim
  · exact hK.elim

omit [Glob] in
theorem OV.sl {C : Ctx} {M : Mem} {bx : Nat → Option (List V)} {k r : Nat} {es : List (List V)} {x : Value} (h : OV C M lam bx (.sl k es r) x) :
    (es = [] ∧ x = .slice none 0 0) ∨ ∃ b off cap, x = .slice (some ⟨b, off, none⟩) es.length cap ∧ es.length ≤ cap ∧ (∀ e ∈ es, e.length = k) ∧
      ∃ vals : Nat → Value, (∀ i, i < es.length * k → C.rd b (off + i) = some (vals i)) ∧ (∀ i v, es.flatten[i]? = some v → VR C v (vals i)) ∧ (∀ v ∈ es.flatten, v.cell = true) ∧ (es = [] → r = 1 → cap = 0) ∧ r ≠ 3 := by
  simp only [OV] at h
  generalize hx : V.sl k es r = vv at h
  cases h <;> try (cases hx; done)
  case slnil => cases hx; exact .inl ⟨rfl, rfl⟩
  case sl vals hn hcap hk hr hv hc hz h3 =>
    cases hx
    subst hn
    exact .inr ⟨_, _, _, rfl, hcap, hk, vals, hr, hv, hc, hz, h3⟩

omit [Glob] in
theorem flatten_get {k : Nat} : ∀ (es : List (List V)) (i j : Nat) (e : List V), (∀ e ∈ es, e.length = k) → es[i]? = some e → j < k → es.flatten[i * k + j]? = e[j]?
  | [], i, j, e, _, h, _ => by simp at h
  | d :: es, 0, j, e, hk, h, hj => by
    simp at h; subst h
    have : d.length = k := hk _ (by simp)
    simp only [List.flatten_cons, Nat.zero_mul, Nat.zero_add]
    rw [List.getElem?_append_left (by omega)]
  | d :: es, i + 1, j, e, hk, h, hj => by
    have hd : d.length = k := hk _ (by simp)
    simp only [List.getElem?_cons_succ] at h
    have ih := flatten_get es i j e (fun e he => hk e (by simp [he])) h hj
    simp only [List.flatten_cons]
    rw [List.getElem?_append_right (by rw [hd, Nat.add_mul]; omega), hd, show (i + 1) * k + j - k = i * k + j by rw [Nat.add_mul]; omega]
    exact ih

omit [Glob] in
theorem flatten_len {k : Nat} : ∀ (es : List (List V)), (∀ e ∈ es, e.length = k) → es.flatten.length = es.length * k
  | [], _ => by simp
  | d :: es, hk => by
    have hd : d.length = k := hk _ (by simp)
    have := flatten_len es (fun e he => hk e (by simp [he]))
    simp only [List.flatten_cons, List.length_append, List.length_cons, this, hd, Nat.add_mul]; omega

omit [Glob] in
/-- an element of a slice that stays, as a row that stays -/
theorem elem_eref {C : Ctx} {k : Nat} {es : List (List V)} {b off i : Nat} {e : List V} {vals : Nat → Value} (hk : ∀ e ∈ es, e.length = k)
    (hr : ∀ i, i < es.length * k → C.rd b (off + i) = some (vals i)) (hv : ∀ i v, es.flatten[i]? = some v → VR C v (vals i)) (hc : ∀ v ∈ es.flatten, v.cell = true)
    (he : es[i]? = some e) : VR C (.eref e 0) (.pointer (some ⟨b, off + i * k, none⟩)) := by
  have hi : i < es.length := by
    rcases Nat.lt_or_ge i es.length with hlt | hge
    · exact hlt
    · rw [List.getElem?_eq_none hge] at he; cases he
  have hel : e.length = k := hk _ (List.mem_of_getElem? he)
  have hb : ∀ j, j < k → i * k + j < es.length * k := fun j hj => by
    have : (i + 1) * k ≤ es.length * k := Nat.mul_le_mul_right k hi
    rw [Nat.add_mul] at this; omega
  have := VR.eref (C := C) (cs := e) (o := 0) (r := b) (off := off + i * k) (fun j => vals (i * k + j)) (fun j hj => by
      rw [Nat.add_assoc]; exact hr _ (hb j (by omega))) (fun j v hj => by
      have hjk : j < k := by
        rcases Nat.lt_or_ge j e.length with hlt | hge
        · omega
        · rw [List.getElem?_eq_none hge] at hj; cases hj
      exact hv _ _ (by rw [flatten_get es i j e hk he hjk]; exact hj)) (fun v hv => hc v (by
      rw [List.mem_flatten]; exact ⟨e, List.mem_of_getElem? he, hv⟩))
  simpa using this

omit [Glob] in
theorem VR.mslI {C : Ctx} {b o k n c : Nat} {x : Value} (h : VR C (.msl b o k n c) x) : b < C.nb ∧ n ≤ c ∧ ∃ cap, c ≤ cap ∧ o + cap * k ≤ C.sz (C.φ b) ∧ x = .slice (some ⟨C.φ b, o, none⟩) n cap := by
  cases h; exact ⟨‹_›, ‹_›, _, ‹_›, ‹_›, rfl⟩

theorem s_indexAddr {oa : OA} (hE : EnvOK P E) (h : FRs φ lam perm S a w.heap) {t : Nat} {x i : Operand} (hop : o.op = .indexAddr t x i)
    (hK : (match (E.ti t).sh, evO S.tm oa.take 0 x, (evO S.tm oa.take 0 i).int? with
     | .slice _ k, .sl k' es _, some (_, n) => if k = k' then Out.need (0 ≤ n ∧ n < es.length) inferInstance (.elem es n.toNat fun e => .val o.dst oa.take (.eref e 0)) else .fail
     | .slice _ k, .gs g ver q m, some (_, n) =>
       (match S.hp[g]? with
        | some (.vec k' _ ver') => if k = k' ∧ ver = ver' then .need (0 ≤ n ∧ n < m) inferInstance (.val o.dst oa.take (.gptr g ver ((q + n.toNat) * k))) else .fail
        | _ => .fail)
     | .slice _ k, .msl b q k' m _, some (_, n) => if k = k' then .need (0 ≤ n ∧ n < m) inferInstance (.val o.dst oa.take (.ptr b (q + n.toNat * k))) else .fail
     | .slice _ k, .lmsl s q k' m _, some (_, n) => if k = k' then .need (0 ≤ n ∧ n < m) inferInstance (.val o.dst oa.take (.lptr s (q + n.toNat * k))) else .fail
     | .arr len _ k, v, some (_, n) => .need (0 ≤ n ∧ n < len) inferInstance (.opt o.dst oa.take (addOff v (n.toNat * k)))
     | _, _, _ => .fail).wp K) : Does P o a w (R0 φ perm S a w o K) := by
  obtain ⟨hx, -⟩ := h.ev oa.take 0 x
  obtain ⟨hi, -⟩ := h.ev oa.take 0 i
  have hrunS : ∀ (el k q : Nat) (kk : IntKind) (n : Int) (b len cap : Nat) (inf : TypeInfo), P.underlying t = some (.slice el) → P.info? el = some inf → inf.size = k →
      a.eval i = .int kk n → a.eval x = .slice (some ⟨b, q, none⟩) len cap → 0 ≤ n → n < len → (execOp a.eval o).run P w = .ok (.value (.pointer (some ⟨b, q + n.toNat * k, none⟩))) w := by
    intro el k q kk n b len cap inf hu hinf hk hi hx h0 h1
    simp [execOp, hop, Instr.indexAt, hi, asIntOf, rU hu, hx, h0, h1, rS hinf, hk, addA]
  split at hK
  · rename_i el k k' es r kk n hs he hn
    rw [he] at hx
    have hi' := OV.int hi hn
    have ht := (TIok.sh' hE hs (by simp)).sh
    rw [hs] at ht
    obtain ⟨hu, inf, hinf, hk⟩ := ht
    split at hK
    · rename_i hkk
      obtain ⟨⟨h0, h1⟩, hK⟩ := hK
      rcases hx.sl with ⟨rfl, -⟩ | ⟨b, off, cap, e, hcap, hke, vals, g1, g2, g3, g4, -⟩
      · simp at h1; omega
      · have hnl : n.toNat < es.length := by omega
        subst hkk
        have hK := hK es[n.toNat] (by simp [hnl])
        exact does_val h (hrunS el k off kk n b _ cap inf hu hinf hk hi' e h0 h1) (elem_eref hke g1 g2 g3 (by simp [hnl])).ov (Rts.non trivial) hK
    · exact hK.elim
  · rename_i el k g ver q m kk n hs he hn
    rw [he] at hx
    have hi' := OV.int hi hn
    have ht := (TIok.sh' hE hs (by simp)).sh
    rw [hs] at ht
    obtain ⟨hu, inf, hinf, hk⟩ := ht
    split at hK
    · rename_i k' cs ver' hg
      split at hK
      · rename_i hc
        obtain ⟨rfl, rfl⟩ := hc
        obtain ⟨⟨h0, h1⟩, hK⟩ := hK
        obtain ⟨r, off, cap, arr, elem, N, v1, -⟩ := h.hr.vecs g k cs ver hg
        obtain ⟨r2, off2, cap2, k2, v2, v3, e⟩ := VR.gsI hx
        rw [v1] at v2; cases v2
        have := hrunS el k (off + q * k) kk n r m (cap - q) inf hu hinf hk hi' e h0 h1
        rw [Nat.add_assoc, ← Nat.add_mul] at this
        exact does_val h this (VR.gptr v1).ov (Rts.non trivial) hK
      · exact hK.elim
    · exact hK.elim
  · rename_i el k b q k' m c kk n hs he hn
    rw [he] at hx
    have hi' := OV.int hi hn
    have ht := (TIok.sh' hE hs (by simp)).sh
    rw [hs] at ht
    obtain ⟨hu, inf, hinf, hk⟩ := ht
    split at hK
    · obtain ⟨⟨h0, h1⟩, hK⟩ := hK
      obtain ⟨hb, hm, cap, hc, hs', e⟩ := VR.mslI hx
      exact does_val h (hrunS el k q kk n _ m cap inf hu hinf hk hi' e h0 h1) (VR.ptr hb).ov (Rts.non trivial) hK
    · exact hK.elim
  · rename_i el k s q k' m c kk n hs he hn
    rw [he] at hx
    have hi' := OV.int hi hn
    have ht := (TIok.sh' hE hs (by simp)).sh
    rw [hs] at ht
    obtain ⟨hu, inf, hinf, hk⟩ := ht
    split at hK
    · obtain ⟨⟨h0, h1⟩, hK⟩ := hK
      obtain ⟨cs, hb, hm, hc, e⟩ := hx
      exact does_val h (v := .lptr s (q + n.toNat * k)) (hrunS el k q kk n _ m c inf hu hinf hk hi' e h0 h1) ⟨by rw [hb]; rfl, rfl⟩ (Rts.non trivial) hK
    · exact hK.elim
  · rename_i len el k kk n hs hn
    have hi' := OV.int hi hn
    have ht := (TIok.sh' hE hs (by simp)).sh
    rw [hs] at ht
    obtain ⟨hu, inf, hinf, hk⟩ := ht
    obtain ⟨⟨h0, h1⟩, hK⟩ := hK
    refine does_opt h hK fun u hv => ?_
    obtain ⟨r, q, e, hov⟩ := hx.addOff hv
    refine ⟨.pointer (some ⟨r, q + n.toNat * k, none⟩), ?_, hov, Rts.non (by cases hv' : evO S.tm oa.take 0 x <;> rw [hv'] at hv <;> simp only [Hx.addOff] at hv <;> cases hv <;> trivial)⟩
    simp [execOp, hop, Instr.indexAt, hi', asIntOf, rU hu, e, Instr.sureAddr, h0, h1, rS hinf, hk, addA]
  · exact hK.elim

end
end Go.Hx

/-
  Hx, part 10: comparisons and sums, bytes, loads, lengths, parts put together.
-/
namespace Go.Hx
open Go

/-- '==' of two structs of scalars, by the cells -/
def EqoOK (P : Program) (t : Nat) (ks : List Kd) : Prop :=
  (∀ (w : World) (op : BinOp) (x y : Operand) (xs ys : Array Value), (eqGuard op t x y (.agg xs) (.agg ys)).run P w = .ok () w) ∧
  ∀ (C : Ctx) (cs ds : List V) (b : Bool) (xs ys : Array Value) (w : World), eqCells cs ds = some b → fitK ks cs = true → fitK ks ds = true →
    xs.size = cs.length → (∀ (i : Nat) v, cs[i]? = some v → ∃ y, xs[i]? = some y ∧ VR C v y) →
    ys.size = ds.length → (∀ (i : Nat) v, ds[i]? = some v → ∃ y, ys[i]? = some y ∧ VR C v y) → (Op.equal t (.agg xs) (.agg ys)).run P w = .ok b w

structure EnvE (P : Program) (E : Env) : Prop where
  ok : EnvOK P E
  eqo : ∀ t ks, (E.ti t).eqo = some ks → EqoOK P t ks

section
variable {P : Program} {E : Env} [Glob] {φ : Phi} {lam : Nat → Nat} {perm : Perm} {S : St} {a : Act} {w : World} {o : Oper} {K : Upd → Prop}

omit [Glob] in
theorem eqKind_iff {k k' : IntKind} (h : eqKind k k' = true) : k = k' := by simpa [eqKind] using h

omit [Glob] in
theorem binI_run {op : BinOp} {t : Nat} {k : IntKind} {a b : Int} {v : V} (h : binI op k a b = some v) (w : World) :
    ∃ x, v = .raw x ∧ one x = true ∧ (∀ perm' M' p, Rt perm' M' p v x) ∧ (binOp op t (.int k a) (.int k b)).run P w = .ok x w := by
  cases op <;> simp only [binI] at h <;> (try (cases h; done)) <;> cases h <;>
    exact ⟨_, rfl, rfl, fun _ _ _ => by unfold Rt; trivial, by simp [binOp, Op.intArith, Op.intCmp, Op.intBits, eqI_eq, leI_eq, ltI_eq, bne]⟩

omit [Glob] in
theorem binS_run {op : BinOp} {t : Nat} {a b : ByteArray} {v : V} (h : binS op a b = some v) (w : World) :
    ∃ x, v = .raw x ∧ one x = true ∧ (binOp op t (.string a) (.string b)).run P w = .ok x w := by
  cases op <;> simp only [binS] at h <;> (try (cases h; done)) <;> cases h <;>
    exact ⟨_, rfl, rfl, by simp [binOp, Op.stringOp]⟩

omit [Glob] in
theorem guard_ok {op : BinOp} {t : Nat} {x y : Operand} {u v : Value} (w : World)
    (h1 : u ≠ .nilIface) (h2 : ∀ c, u ≠ .agg c) : (eqGuard op t x y u v).run P w = .ok () w := by
  unfold eqGuard
  cases op <;> cases u <;> first | (exact absurd rfl h1) | (exact absurd rfl (h2 _)) | rfl | simp

omit [Glob] in
theorem run_bin {op : BinOp} {t yt : Nat} {x y : Operand} {z : Value} (hop : o.op = .binOp op t x y yt) (hg : (eqGuard op t x y (a.eval x) (a.eval y)).run P w = .ok () w)
    (hb : (binOp op t (a.eval x) (a.eval y)).run P w = .ok z w) : (execOp a.eval o).run P w = .ok (.value z) w := by
  simp only [execOp, hop, Sem.run_bind, hg, Result.andThen_ok, hb, Sem.run_pure]

omit [Glob] in
theorem run_eql {op : BinOp} {t : Nat} {u v : Value} {b neg : Bool} {w : World} (hop : op = if neg then .neq else .eql) (hu : ∀ k n, u ≠ .int k n) (hs : ∀ s, u ≠ .string s) (hf : ∀ k n, u ≠ .float k n) (hc : ∀ k n m, u ≠ .complex k n m)
    (h : (Op.equal t u v).run P w = .ok b w) : (binOp op t u v).run P w = .ok (.bool (if neg then !b else b)) w := by
  subst hop
  cases neg <;> cases u <;> first | (exact absurd rfl (hu _ _)) | (exact absurd rfl (hs _)) | (exact absurd rfl (hf _ _)) | (exact absurd rfl (hc _ _ _)) |
    (cases v <;> simp only [binOp, Sem.run_bind, h, Result.andThen_ok, Sem.run_pure, Bool.false_eq_true, if_false, if_true])

omit [Glob] in
theorem nilAs_ptr {φ : Phi} {nb : Nat} {M : Mem} {bx : Nat → Option (List V)} {v : V} {x : Value} {b : Bool} (h : OV (mkC φ nb perm M) M lam bx v x) (hn : nilAs false v = some b) : ∃ r, x = .pointer r ∧ r.isNone = b := by
  unfold nilAs at hn
  split at hn <;> simp at hn <;> subst hn
  · exact ⟨none, h.raw, rfl⟩
  · exact ⟨_, (VR.ptrI h).1, rfl⟩
  · exact ⟨_, h.2, rfl⟩
  · obtain ⟨r, off, e, -⟩ := eref_reads (h : VR _ _ _); exact ⟨_, e, rfl⟩
  · obtain ⟨r, off, cap, k, -, e⟩ := VR.gptrI h; exact ⟨_, e, rfl⟩

omit [Glob] in
theorem nilAs_map {φ : Phi} {nb : Nat} {M : Mem} {bx : Nat → Option (List V)} {v : V} {x : Value} {b : Bool} (h : OV (mkC φ nb perm M) M lam bx v x) (hn : nilAs true v = some b) : ∃ r, x = .map r ∧ r.isNone = b := by
  unfold nilAs at hn
  split at hn <;> simp at hn <;> subst hn
  · exact ⟨none, h.raw, rfl⟩
  · exact ⟨_, (VR.mapI h).1, rfl⟩

omit [Glob] in
theorem equalIn_ptr_nil (d : Nat) {t e : Nat} (hu : P.underlying t = some (.pointer e)) (r : Option Addr) (w : World) : (Op.equalIn (d + 1) t (.pointer r) (.pointer none)).run P w = .ok r.isNone w := by
  cases r <;> simp [Op.equalIn, rU hu]

omit [Glob] in
theorem equalIn_map_nil (d : Nat) {t k e : Nat} (hu : P.underlying t = some (.map k e)) (r : Option Nat) (w : World) : (Op.equalIn (d + 1) t (.map r) (.map none)).run P w = .ok r.isNone w := by
  cases r <;> simp [Op.equalIn, rU hu]

omit [Glob] in
theorem equalIn_slice_nil (d : Nat) {t e : Nat} (hu : P.underlying t = some (.slice e)) (r : Option Addr) (n c : Nat) (w : World) : (Op.equalIn (d + 1) t (.slice r n c) (.slice none 0 0)).run P w = .ok r.isNone w := by
  cases r <;> simp [Op.equalIn, rU hu]

omit [Glob] in
theorem equalIn_bool (d : Nat) {t : Nat} (hu : P.underlying t = some .bool) (x y : Bool) (w : World) : (Op.equalIn (d + 1) t (.bool x) (.bool y)).run P w = .ok (x == y) w := by
  simp [Op.equalIn, rU hu]

omit [Glob] in
theorem equal_ptr_nil {t e : Nat} (hu : P.underlying t = some (.pointer e)) (r : Option Addr) (w : World) : (Op.equal t (.pointer r) (.pointer none)).run P w = .ok r.isNone w := equalIn_ptr_nil 9999 hu r w

omit [Glob] in
theorem equal_map_nil {t k e : Nat} (hu : P.underlying t = some (.map k e)) (r : Option Nat) (w : World) : (Op.equal t (.map r) (.map none)).run P w = .ok r.isNone w := equalIn_map_nil 9999 hu r w

omit [Glob] in
theorem equal_slice_nil {t e : Nat} (hu : P.underlying t = some (.slice e)) (r : Option Addr) (n c : Nat) (w : World) : (Op.equal t (.slice r n c) (.slice none 0 0)).run P w = .ok r.isNone w := equalIn_slice_nil 9999 hu r n c w

omit [Glob] in
theorem equal_bool {t : Nat} (hu : P.underlying t = some .bool) (x y : Bool) (w : World) : (Op.equal t (.bool x) (.bool y)).run P w = .ok (x == y) w := equalIn_bool 9999 hu x y w

theorem s_eq {oa : OA} (hE : EnvE P E) (h : FRs φ lam perm S a w.heap) {op : BinOp} {t yt : Nat} {x y : Operand} (neg : Bool) (hneg : op = if neg then .neq else .eql) (hop : o.op = .binOp op t x y yt)
    (hK : (eqOut E o.dst neg t (evO S.tm oa.take (E.kOf t) x) (evO S.tm oa.take (E.kOf t) y) (isNilC y)).wp K) :
    Does P o a w (R0 φ perm S a w o K) := by
  obtain ⟨hx, -⟩ := h.ev oa.take (E.kOf t) x
  obtain ⟨hy, -⟩ := h.ev oa.take (E.kOf t) y
  unfold eqOut at hK
  generalize evO S.tm oa.take (E.kOf t) x = vx at *
  have fin : ∀ (b : Bool) (v : V), (∀ k n, a.eval x ≠ .int k n) → (∀ s, a.eval x ≠ .string s) → (∀ k n, a.eval x ≠ .float k n) → (∀ k n m, a.eval x ≠ .complex k n m) → a.eval x ≠ .nilIface → (∀ c, a.eval x ≠ .agg c) →
      (Op.equal t (a.eval x) (a.eval y)).run P w = .ok b w → VR (mkC φ S.hp.length perm w.heap) v (.bool (if neg then !b else b)) → (∀ perm' M' p, Rt perm' M' p v (.bool (if neg then !b else b))) → (Out.val o.dst [] v).wp K → Does P o a w (R0 φ perm S a w o K) := by
    intro b v h1 h2 h3 h4 h5 h6 he hv hr hK
    exact does_val h (run_bin hop (guard_ok w h5 h6) (run_eql hneg h1 h2 h3 h4 he)) hv.ov (.inr hr) hK
  have rt : ∀ (v : V) (b : Bool) perm' M' p, Rt perm' M' p v (.bool b) := fun v b _ _ _ => by unfold Rt; split <;> trivial
  have tf : ∀ b : Bool, VR (mkC φ S.hp.length perm w.heap) (tfV b neg) (.bool (if neg then !b else b)) := fun b => by
    cases b <;> cases neg <;> first | exact VR.tt | exact VR.ff
  split at hK
  · rename_i hs
    have ht := (TIok.sh' hE.ok hs (by simp)).sh
    rw [hs] at ht
    split at hK
    · rename_i b1 b2 hb1 hb2
      have e1 := OV.bool hx hb1
      have e2 := OV.bool hy hb2
      refine fin (b1 == b2) _ (by simp [e1]) (by simp [e1]) (by simp [e1]) (by simp [e1]) (by simp [e1]) (by simp [e1]) (by rw [e1, e2]; exact equal_bool ht b1 b2 w) ?_ (rt _ _) hK
      cases neg <;> exact VR.raw rfl
    · exact hK.elim
  · rename_i hs
    obtain ⟨el, ht⟩ : ∃ el, P.underlying t = some (.pointer el) := by have := (TIok.sh' hE.ok hs (by simp)).sh; rw [hs] at this; exact this
    split at hK
    · rename_i b hb hb'
      obtain ⟨r, e1, hr⟩ := nilAs_ptr hx hb
      obtain ⟨r', e2, hr'⟩ := nilAs_ptr hy hb'
      have hr'' : r' = none := by simpa using hr'
      subst hr''
      exact fin b _ (by simp [e1]) (by simp [e1]) (by simp [e1]) (by simp [e1]) (by simp [e1]) (by simp [e1]) (by rw [e1, e2, ← hr]; exact equal_ptr_nil ht r w) (tf b) (rt _ _) hK
    · exact hK.elim
  · rename_i k e hs
    have ht := (TIok.sh' hE.ok hs (by simp)).sh
    rw [hs] at ht
    split at hK
    · rename_i b hb hb'
      obtain ⟨r, e1, hr⟩ := nilAs_map hx hb
      obtain ⟨r', e2, hr'⟩ := nilAs_map hy hb'
      have hr'' : r' = none := by simpa using hr'
      subst hr''
      exact fin b _ (by simp [e1]) (by simp [e1]) (by simp [e1]) (by simp [e1]) (by simp [e1]) (by simp [e1]) (by rw [e1, e2, ← hr]; exact equal_map_nil ht r w) (tf b) (rt _ _) hK
    · exact hK.elim
  · rename_i el k hs
    obtain ⟨ht, -⟩ : P.underlying t = some (.slice el) ∧ _ := by have := (TIok.sh' hE.ok hs (by simp)).sh; rw [hs] at this; exact this
    split at hK
    · rename_i k' es r
      split at hK
      · rename_i hc
        have hy' : a.eval y = .slice none 0 0 := by
          unfold isNilC at hc
          split at hc
          · rfl
          · cases hc
        have raw : ∀ b : Bool, VR (mkC φ S.hp.length perm w.heap) (mkB (if neg then !b else b)) (.bool (if neg then !b else b)) := fun b => VR.raw rfl
        rcases hx.sl with ⟨rfl, e1⟩ | ⟨b, off, cap, e1, hcap, hke, vals, g1, g2, g3, g4, g5⟩
        · have fin' : ∀ v, VR (mkC φ S.hp.length perm w.heap) v (.bool (if neg then !true else true)) → (Out.val o.dst [] v).wp K → Does P o a w (R0 φ perm S a w o K) := fun v hv hK =>
            fin true v (by simp [e1]) (by simp [e1]) (by simp [e1]) (by simp [e1]) (by simp [e1]) (by simp [e1]) (by rw [e1, hy']; exact equal_slice_nil ht none 0 0 w) hv (rt _ _) hK
          split at hK
          · exact fin' _ (tf true) hK
          · exact fin' _ (raw true) (hK true (by simp))
        · have fin' : ∀ v, VR (mkC φ S.hp.length perm w.heap) v (.bool (if neg then !false else false)) → (Out.val o.dst [] v).wp K → Does P o a w (R0 φ perm S a w o K) := fun v hv hK =>
            fin false v (by simp [e1]) (by simp [e1]) (by simp [e1]) (by simp [e1]) (by simp [e1]) (by simp [e1]) (by rw [e1, hy']; exact equal_slice_nil ht (some _) _ _ w) hv (rt _ _) hK
          split at hK
          · exact absurd rfl g5
          · split at hK
            · exact fin' _ (tf false) hK
            · exact fin' _ (raw false) (hK false (by simp))
      · exact hK.elim
    · rename_i g ver q n
      split at hK
      · rename_i hc
        have hy' : a.eval y = .slice none 0 0 := by
          unfold isNilC at hc
          split at hc
          · rfl
          · cases hc
        obtain ⟨r, off, cap, kk, -, -, e1⟩ := VR.gsI hx
        exact fin false _ (by simp [e1]) (by simp [e1]) (by simp [e1]) (by simp [e1]) (by simp [e1]) (by simp [e1]) (by rw [e1, hy']; exact equal_slice_nil ht (some _) _ _ w) (tf false) (rt _ _) hK
      · exact hK.elim
    · exact hK.elim
  all_goals
    first
    | exact hK.elim
    | (split at hK
       · rename_i cs ds hvy
         split at hK
         · exact hK.elim
         rename_i ks hq
         split at hK
         · rename_i hfit
           obtain ⟨hn1, hn2⟩ := Bool.and_eq_true_iff.1 hfit
           obtain ⟨hg, heq⟩ := hE.eqo t ks hq
           obtain ⟨xs, e1, s1, c1, a1⟩ := hx.agg
           rw [hvy] at hy
           obtain ⟨ys, e2, s2, c2, a2⟩ := hy.agg
           cases hb : eqCells cs ds with
           | none => rw [hb] at hK; exact hK.elim
           | some b =>
             rw [hb] at hK
             have hr := heq _ cs ds b xs ys w hb hn1 hn2 s1 a1 s2 a2
             refine does_val h (take := []) (x := .bool (if neg then !b else b)) (run_bin hop (by rw [e1, e2]; exact hg w op x y xs ys) (by rw [e1, e2]; exact run_eql hneg (by simp) (by simp) (by simp) (by simp) hr)) (VR.raw rfl).ov (.inr (rt _ _)) ?_
             exact hK
         · exact hK.elim
       · exact hK.elim)

theorem s_binOp {oa : OA} (hE : EnvE P E) (h : FRs φ lam perm S a w.heap) {op : BinOp} {t yt : Nat} {x y : Operand} (hop : o.op = .binOp op t x y yt)
    (hK : (binOut E o.dst op t (evO S.tm oa.take (E.kOf t) x) (evO S.tm oa.take (E.kOf t) y) (isNilC y)).wp K) :
    Does P o a w (R0 φ perm S a w o K) := by
  have heq := fun neg hneg hK => s_eq (oa := oa) hE h (K := K) neg hneg hop hK
  obtain ⟨hx, -⟩ := h.ev oa.take (E.kOf t) x
  obtain ⟨hy, -⟩ := h.ev oa.take (E.kOf t) y
  unfold binOut at hK
  split at hK
  · rename_i k n k' m hvx hvy
    rw [hvx] at hx; rw [hvy] at hy
    have e1 := hx.raw
    have e2 := hy.raw
    have rb : ∀ {z : Value}, (binOp op t (.int k n) (.int k' m)).run P w = .ok z w → (execOp a.eval o).run P w = .ok (.value z) w := fun hb =>
      run_bin hop (guard_ok w (by simp [e1]) (by simp [e1])) (by rw [e1, e2]; exact hb)
    have fin : ∀ {z : Value}, one z = true → (∀ perm' M' p, Rt perm' M' p (.raw z) z) → (binOp op t (.int k n) (.int k' m)).run P w = .ok z w → (Out.val o.dst [] (.raw z)).wp K → Does P o a w (R0 φ perm S a w o K) := fun h1 h2 h3 h4 =>
      does_val h (rb h3) (VR.raw h1).ov (.inr h2) h4
    split at hK
    · exact fin rfl (fun _ _ _ => by unfold Rt; trivial) (by have := hK.1; simp [binOp, Op.shift, Int.not_lt.2 hK.1]) hK.2
    · exact fin rfl (fun _ _ _ => by unfold Rt; trivial) (by have := hK.1; simp [binOp, Op.shift, Int.not_lt.2 hK.1]) hK.2
    · split at hK
      · rename_i hk; have hk := eqKind_iff hk; subst hk
        exact fin rfl (fun _ _ _ => by unfold Rt; trivial) (by simp [binOp, Op.intDiv, hK.1]) hK.2
      · exact hK.elim
    · split at hK
      · rename_i hk; have hk := eqKind_iff hk; subst hk
        exact fin rfl (fun _ _ _ => by unfold Rt; trivial) (by simp [binOp, Op.intDiv, hK.1]) hK.2
      · exact hK.elim
    · split at hK
      · rename_i hk; have hk := eqKind_iff hk; subst hk
        refine does_opt h hK fun v hv => ?_
        obtain ⟨z, rfl, h1, h2, h3⟩ := binI_run (t := t) hv w
        exact ⟨z, rb h3, (VR.raw h1).ov, .inr h2⟩
      · exact hK.elim
  · rename_i s s' hvx hvy
    rw [hvx] at hx; rw [hvy] at hy
    have e1 := hx.raw
    have e2 := hy.raw
    have rb : ∀ {z : Value}, (binOp op t (.string s) (.string s')).run P w = .ok z w → (execOp a.eval o).run P w = .ok (.value z) w := fun hb =>
      run_bin hop (guard_ok w (by simp [e1]) (by simp [e1])) (by rw [e1, e2]; exact hb)
    split at hK
    · refine does_val h (x := .string (s ++ s')) (rb ?_) (VR.raw rfl).ov (.inr fun _ _ _ => by unfold Rt; trivial) hK.2
      have h1 := hK.1
      have h2 : (s.size : Int) + s'.size ≤ 9223372036854775807 := by omega
      simp [binOp, Op.stringOp, IntKind.max, IntKind.signed, IntKind.bits, h2]
    · refine does_opt h hK fun v hv => ?_
      obtain ⟨z, rfl, h1, h3⟩ := binS_run (t := t) hv w
      exact ⟨z, rb h3, (VR.raw h1).ov, .inr fun _ _ _ => by
        unfold Rt; split <;> first | trivial | (rename_i e; cases e)⟩
  · split at hK
    · exact heq false rfl hK
    · exact heq true rfl hK
    · exact hK.elim
end
end Go.Hx

/-
  Hx, part 11: bytes, cuts, loads, lengths, parts put together.
-/
namespace Go.Hx
open Go

section
variable {P : Program} {E : Env} [Glob] {φ : Phi} {lam : Nat → Nat} {perm : Perm} {S : St} {a : Act} {w : World} {o : Oper} {K : Upd → Prop}

theorem s_index {oa : OA} (hE : EnvE P E) (h : FRs φ lam perm S a w.heap) {t : Nat} {x i : Operand} (hop : o.op = .index t x i)
    (hK : (match (E.ti t).sh, evO S.tm oa.take 0 x, (evO S.tm oa.take 0 i).int? with
     | .str, .raw (.string s), some (_, n) => Out.need (0 ≤ n ∧ n < s.size) inferInstance (.byte s n.toNat fun c => .val o.dst oa.take (.raw (.int .u8 c.toNat)))
     | .arr len elem 1, .agg cs, some (_, n) => if (E.ti elem).agg ∨ !(E.ti elem).ok then .fail else .need (0 ≤ n ∧ n < len ∧ n < cs.length) inferInstance (.cell cs n.toNat fun v => .live o.dst oa.take v.strip)
     | _, _, _ => .fail).wp K) : Does P o a w (R0 φ perm S a w o K) := by
  obtain ⟨hx, -⟩ := h.ev oa.take 0 x
  obtain ⟨hi, -⟩ := h.ev oa.take 0 i
  split at hK
  · rename_i s kk n hs he hn
    rw [he] at hx
    have e := hx.raw
    have hi' := OV.int hi hn
    have ht := (TIok.sh' hE.ok hs (by simp)).sh
    rw [hs] at ht
    obtain ⟨⟨h0, h1⟩, hK⟩ := hK
    have hlt : n.toNat < s.data.size := by
      have : s.size = s.data.size := rfl
      omega
    have hK := hK s.data[n.toNat] (by simp [hlt])
    refine does_val h (x := .int .u8 s.data[n.toNat].toNat) ?_ (VR.raw rfl).ov (.inr fun _ _ _ => by unfold Rt; trivial) hK
    have hb : s[n.toNat]? = some s.data[n.toNat] := by
      have : n.toNat < s.size := hlt
      simp [getElem?_pos, this]; rfl
    simp [execOp, hop, Instr.index, hi', asIntOf, rU ht, e, h0, hb]
  · rename_i len elem cs kk n hs he hn
    rw [he] at hx
    have hi' := OV.int hi hn
    have ht := (TIok.sh' hE.ok hs (by simp)).sh
    rw [hs] at ht
    obtain ⟨hu, inf, hinf, hsz⟩ := ht
    obtain ⟨arr, e, hl, hc, hall⟩ := hx.agg
    split at hK
    · exact hK.elim
    · rename_i hag
      simp only [not_or, Bool.not_eq_true] at hag
      obtain ⟨hag, hok⟩ := hag
      have hok : (E.ti elem).ok = true := by simpa using hok
      obtain ⟨⟨h0, h1, h2⟩, hK⟩ := hK
      have hte := hE.ok elem hok
      have hsz' : inf.size = 1 := hsz
      have hlt : n.toNat < cs.length := by omega
      have hK := hK cs[n.toNat] (by simp [hlt])
      obtain ⟨y, hy, hvr⟩ := hall n.toNat cs[n.toNat] (by simp [hlt])
      refine does_live h (x := y) ?_ hvr.ov.strip Rts.strip hK
      simp [execOp, hop, Instr.index, hi', asIntOf, rU hu, e, h0, h1, rS hinf, hsz', part, rA hte, hag, hy]
  · exact hK.elim

omit [Glob] in
theorem args_one {args : Array Operand} {f : Operand → V} {v : V} (h : args.toList.map f = [v]) : ∃ x, args = #[x] ∧ v = f x := by
  obtain ⟨l⟩ := args
  match l, h with
  | [x], h => exact ⟨x, rfl, by simpa using h.symm⟩

omit [Glob] in
theorem args_two {args : Array Operand} {f : Operand → V} {v u : V} (h : args.toList.map f = [v, u]) : ∃ x y, args = #[x, y] ∧ v = f x ∧ u = f y := by
  obtain ⟨l⟩ := args
  match l, h with
  | [x, y], h => exact ⟨x, y, rfl, by simp at h; exact ⟨h.1.symm, h.2.symm⟩⟩

omit [Glob] in
theorem run_builtin {b : Builtin} {args : Array Operand} {ats : Array Nat} {x : Value} {w' : World} (hop : o.op = .call { callee := .builtin b, args := args, argTypes := ats })
    (hb : (builtin b ats o.type (args.map fun | .const _ => true | _ => false) (args.map a.eval)).run P w = .ok (.value x) w') : (execOp a.eval o).run P w = .ok (.value x) w' := by
  simp only [execOp, hop, resolve, Sem.run_bind, Sem.run_pure, Result.andThen_ok, invoke]
  exact hb

theorem s_len {oa : OA} (hE : EnvE P E) (h : FRs φ lam perm S a w.heap) {args : Array Operand} {ats : Array Nat} {t0 : Nat} (hop : o.op = .call { callee := .builtin .len, args := args, argTypes := ats })
    (h0 : ats[0]? = some t0) (hK : (builtinOut E o.dst oa.take oa.mode .len t0 ats.toList (args.toList.map (evO S.tm oa.take (E.kOf t0))) S.tm S.hp).wp K) : Does P o a w (R0 φ perm S a w o K) := by
  simp only [builtinOut] at hK
  have one : ∀ x : Operand, args = #[x] → ∀ n : Nat, (Builtin.len_ ats o.type #[a.eval x]).run P w = .ok (goInt n) w → (Out.val o.dst oa.take (goI n)).wp K → Does P o a w (R0 φ perm S a w o K) := by
    intro x hx n hr hK1
    refine does_val h (x := goInt n) (run_builtin hop (by rw [hx]; simp [builtin, hr])) (VR.raw rfl).ov (.inr fun _ _ _ => by unfold Rt; trivial) hK1
  split at hK
  · rename_i el k kk es r hs hv
    obtain ⟨x, ha, hv⟩ := args_one hv
    obtain ⟨hx, -⟩ := h.ev oa.take (E.kOf t0) x
    rw [← hv] at hx
    obtain ⟨ht, -⟩ : P.underlying t0 = some (.slice el) ∧ _ := by have := (TIok.sh' hE.ok hs (by simp)).sh; rw [hs] at this; exact this
    refine one x ha _ ?_ hK
    rcases hx.sl with ⟨rfl, e⟩ | ⟨b, off, cap, e, -⟩ <;> simp [Builtin.len_, h0, rU ht, e]
  · rename_i el k b q k' n c hs hv
    obtain ⟨x, ha, hv⟩ := args_one hv
    obtain ⟨hx, -⟩ := h.ev oa.take (E.kOf t0) x
    rw [← hv] at hx
    obtain ⟨ht, -⟩ : P.underlying t0 = some (.slice el) ∧ _ := by have := (TIok.sh' hE.ok hs (by simp)).sh; rw [hs] at this; exact this
    refine one x ha _ ?_ hK
    obtain ⟨-, -, cap, -, -, e⟩ := VR.mslI hx
    simp [Builtin.len_, h0, rU ht, e]
  · rename_i el k g ver q n hs hv
    obtain ⟨x, ha, hv⟩ := args_one hv
    obtain ⟨hx, -⟩ := h.ev oa.take (E.kOf t0) x
    rw [← hv] at hx
    obtain ⟨ht, -⟩ : P.underlying t0 = some (.slice el) ∧ _ := by have := (TIok.sh' hE.ok hs (by simp)).sh; rw [hs] at this; exact this
    refine one x ha _ ?_ hK
    obtain ⟨r, off, cap, kk, -, -, e⟩ := VR.gsI hx
    simp [Builtin.len_, h0, rU ht, e]
  · rename_i el k b q k' n c hs hv
    obtain ⟨x, ha, hv⟩ := args_one hv
    obtain ⟨hx, -⟩ := h.ev oa.take (E.kOf t0) x
    rw [← hv] at hx
    obtain ⟨ht, -⟩ : P.underlying t0 = some (.slice el) ∧ _ := by have := (TIok.sh' hE.ok hs (by simp)).sh; rw [hs] at this; exact this
    refine one x ha _ ?_ hK
    obtain ⟨cs, -, -, -, e⟩ := hx
    simp [Builtin.len_, h0, rU ht, e]
  · rename_i s hs hv
    obtain ⟨x, ha, hv⟩ := args_one hv
    obtain ⟨hx, -⟩ := h.ev oa.take (E.kOf t0) x
    rw [← hv] at hx
    have ht := (TIok.sh' hE.ok hs (by simp)).sh
    rw [hs] at ht
    refine one x ha _ ?_ hK
    simp [Builtin.len_, h0, rU ht, hx.raw]
  · rename_i kt el r hs hv
    obtain ⟨x, ha, hv⟩ := args_one hv
    obtain ⟨hx, -⟩ := h.ev oa.take (E.kOf t0) x
    rw [← hv] at hx
    have ht := (TIok.sh' hE.ok hs (by simp)).sh
    rw [hs] at ht
    split at hK
    · rename_i ar es he
      obtain ⟨-, ents, clock, hM, hm⟩ := h.hr.maps r ar es he
      refine one x ha _ ?_ hK
      have e := (VR.mapI hx).1
      have hM' : w.heap[φ r]? = some (.map ents clock) := hM
      have e' : a.eval x = .map (some (φ r)) := e
      simp [Builtin.len_, h0, rU ht, e', getObj, Sem.run, hM', hm.size]
    · exact hK.elim
  · rename_i n el k v hs hv
    obtain ⟨x, ha, hv⟩ := args_one hv
    obtain ⟨ht, -⟩ : P.underlying t0 = some (.array n el) ∧ _ := by have := (TIok.sh' hE.ok hs (by simp)).sh; rw [hs] at this; exact this
    refine one x ha _ ?_ hK
    simp [Builtin.len_, h0, rU ht]
  · exact hK.elim

omit [Glob] in
theorem fold_run (mx : Bool) (k : IntKind) (w : World) : ∀ (xs : List Value) (vs : List V) (acc : Int) (v : V), foldInt mx k acc vs = some v → xs.length = vs.length →
    (∀ (i : Nat) u, vs[i]? = some u → ∀ k' n, u = .raw (.int k' n) → xs[i]? = some (.int k' n)) →
    ∃ z, v = .raw z ∧ (∃ n, z = .int k n) ∧ (xs.foldlM (if mx then Builtin.max2 else Builtin.min2) (.int k acc)).run P w = .ok z w
  | [], [], acc, v, h, _, _ => by cases h; exact ⟨_, rfl, ⟨_, rfl⟩, by simp⟩
  | x :: xs, u :: vs, acc, v, h, hl, hall => by
    cases u with
    | raw y =>
      cases y with
      | int k' n =>
        simp only [foldInt] at h
        split at h
        · have hx := hall 0 _ rfl k' n rfl
          simp at hx; subst hx
          obtain ⟨z, h1, h2, h3⟩ := fold_run mx k w xs vs _ v h (by simpa using hl) (fun i u hu => hall (i + 1) u (by simpa using hu))
          refine ⟨z, h1, h2, ?_⟩
          simp only [List.foldlM_cons, Sem.run_bind]
          cases mx
          · simp only [Bool.false_eq_true, if_false, Builtin.min2, Sem.run_pure, Result.andThen_ok] at h3 ⊢; exact h3
          · simp only [if_true, Builtin.max2, Sem.run_pure, Result.andThen_ok] at h3 ⊢; exact h3
        · cases h
      | _ => simp [foldInt] at h
    | _ => simp [foldInt] at h
  | [], _ :: _, _, _, _, h, _ => by simp at h
  | _ :: _, [], _, _, _, h, _ => by simp at h

theorem s_maxmin {oa : OA} (h : FRs φ lam perm S a w.heap) {args : Array Operand} {ats : Array Nat} {k0 : Nat} (mx : Bool) {b : Builtin} (hb : b = if mx then .max else .min) (hop : o.op = .call { callee := .builtin b, args := args, argTypes := ats })
    (hK : (Out.opt o.dst oa.take (extInt mx (args.toList.map (evO S.tm oa.take k0)))).wp K) : Does P o a w (R0 φ perm S a w o K) := by
  have hall : ∀ x, OV (mkC φ S.hp.length perm w.heap) w.heap lam S.box (evO S.tm oa.take k0 x) (a.eval x) := fun x => (h.ev oa.take k0 x).1
  refine does_opt h hK fun v hv => ?_
  obtain ⟨l⟩ := args
  cases l with
  | nil => simp [extInt] at hv
  | cons x r =>
    simp only [List.map_cons] at hv
    have hx := hall x
    cases hvx : evO S.tm oa.take k0 x <;> rw [hvx] at hv hx <;> simp only [extInt] at hv <;> try (cases hv; done)
    case raw y =>
      cases y <;> simp only at hv <;> try (cases hv; done)
      case int k n =>
        have ex := hx.raw
        obtain ⟨z, h1, ⟨m, h2⟩, h3⟩ := fold_run (P := P) mx k w (r.map a.eval) (r.map (evO S.tm oa.take k0)) n v hv (by simp) (fun i u hu k' q hq => by
          simp only [List.getElem?_map] at hu ⊢
          cases hr : r[i]? with
          | none => rw [hr] at hu; cases hu
          | some y =>
            rw [hr] at hu; simp at hu; subst hu
            have := hall y; rw [hq] at this
            simp [this.raw])
        subst h1; subst h2
        refine ⟨.int k m, run_builtin hop ?_, (VR.raw rfl).ov, .inr fun _ _ _ => by unfold Rt; trivial⟩
        subst hb
        cases mx
        · simp only [Bool.false_eq_true, if_false] at h3 ⊢
          simp [builtin, Builtin.min_, ex, h3]
        · simp only [if_true] at h3 ⊢
          simp [builtin, Builtin.max_, ex, h3]

theorem does_load {oa : OA} (hE : EnvE P E) (h : FRs φ lam perm S a w.heap) {t : Nat} {x : Operand} (hop : o.op = .load t x) (hok : (E.ti t).ok = true)
    (hK : (outLoad (E.ti t) o.dst oa.take false S.box S.hp (evO S.tm oa.take 0 x)).wp K) : Does P o a w (R0 φ perm S a w o K) := by
  obtain ⟨hx, -⟩ := h.ev oa.take 0 x
  have ht := hE.ok t hok
  unfold outLoad at hK
  have fin : ∀ {r off q : Nat} {cs : List V}, a.eval x = .pointer (some ⟨r, off + q, none⟩) → Reads (mkC φ S.hp.length perm w.heap) w.heap r off cs → (Out.opt o.dst oa.take (loadV (E.ti t) cs q)).wp K → Does P o a w (R0 φ perm S a w o K) := by
    intro r off q cs e hr hK
    refine does_opt h hK fun v hv => ?_
    obtain ⟨y, h1, h2, h3⟩ := loadV_sound ht hr hv
    exact ⟨y, by simp [execOp, hop, Instr.loadAt, e, Instr.sureAddr, h1], h2.ov, .inr h3⟩
  split at hK
  · rename_i cs q he
    rw [he] at hx
    obtain ⟨r, off, e, hr⟩ := eref_reads (hx : VR _ _ _)
    exact fin e hr (by simpa using hK)
  · rename_i s q he
    rw [he] at hx
    split at hK
    · exact hK.elim
    · rename_i cs hcs
      obtain ⟨-, arr, elem, hM, hrow⟩ := h.br s cs hcs
      exact fin (off := 0) (by rw [hx.2, Nat.zero_add]) (hrow.reads hM) (by simpa using hK)
  · rename_i b q he
    rw [he] at hx
    split at hK
    · rename_i cs hcs
      obtain ⟨-, arr, elem, hM, hrow⟩ := h.hr.cells b cs hcs
      exact fin (off := 0) (by rw [(VR.ptrI hx).1, Nat.zero_add]) (hrow.reads hM) (by simpa using hK)
    · exact hK.elim
  · rename_i g ver q he
    rw [he] at hx
    split at hK
    · rename_i k cs ver' hg
      split at hK
      · rename_i hc
        obtain ⟨rfl, -⟩ := hc
        obtain ⟨r, off, cap, arr, elem, N, v1, -, -, v4, -, -, -, v8⟩ := h.hr.vecs g k cs ver hg
        obtain ⟨r2, off2, cap2, k2, v2, e⟩ := VR.gptrI hx
        rw [v1] at v2; cases v2
        refine fin (r := r) (off := off) (q := q) e (fun i v hv => ?_) hK
        obtain ⟨h1, y, h2, h3, -⟩ := v8.each i v hv
        exact ⟨y, by rw [cellAt_cells v4]; exact h2, .inr ⟨h1, h3⟩⟩
      · exact hK.elim
    · exact hK.elim
  · exact hK.elim

end
end Go.Hx

/-
  Hx, part 12: cuts, conversions, lookups, parts put together.
-/
namespace Go.Hx
open Go

section
variable {P : Program} {E : Env} [Glob] {φ : Phi} {lam : Nat → Nat} {perm : Perm} {S : St} {a : Act} {w : World} {o : Oper} {K : Upd → Prop}

omit [Glob] in
theorem sliceBound_run {v : Value} {k : IntKind} {n : Int} {y : Nat} {code : BoundsCode} (hv : v = .int k n) (h0 : 0 ≤ n) (h1 : n ≤ y) (w : World) : (Instr.sliceBound v y code).run P w = .ok n.toNat w := by
  subst hv
  simp [Instr.sliceBound, asIntOf, h0, h1]

/-- an optional operand that is a number -/
def OI : Option Value → Option Int → Prop
  | none, none => True
  | some v, some n => ∃ k, v = .int k n
  | _, _ => False

omit [Glob] in
theorem bounds_run (b : Bool) {len cap : Nat} {lo hi : Option Value} {l h : Option Int} (hl : OI lo l) (hh : OI hi h)
    (h0 : 0 ≤ l.getD 0) (h1 : l.getD 0 ≤ h.getD len) (h2 : h.getD len ≤ cap) (w : World) :
    (Instr.sliceBounds b len cap lo hi none).run P w = .ok ((l.getD 0).toNat, (h.getD len).toNat, cap) w := by
  have e2 : ∀ (code : BoundsCode) v n, hi = some v → h = some n → (Instr.sliceBound v cap code).run P w = .ok n.toNat w := fun code v n e1 e2 => by
    subst e1; subst e2
    obtain ⟨k, hk⟩ := hh
    exact sliceBound_run hk (by simp at h1; omega) (by simpa using h2) w
  cases hi with
  | none =>
    cases h with
    | some n => exact hh.elim
    | none =>
      cases lo with
      | none =>
        cases l with
        | some n => exact hl.elim
        | none => simp [Instr.sliceBounds]
      | some v =>
        cases l with
        | none => exact hl.elim
        | some n =>
          obtain ⟨k, hk⟩ := hl
          simp only [Option.getD_some, Option.getD_none] at h0 h1 h2 ⊢
          simp [Instr.sliceBounds, sliceBound_run (P := P) (code := .sliceB) hk h0 h1 w]
  | some u =>
    cases h with
    | none => exact hh.elim
    | some m =>
      have e := fun code => e2 code u m rfl rfl
      cases lo with
      | none =>
        cases l with
        | some n => exact hl.elim
        | none => cases b <;> simp [Instr.sliceBounds, e]
      | some v =>
        cases l with
        | none => exact hl.elim
        | some n =>
          obtain ⟨k, hk⟩ := hl
          simp only [Option.getD_some] at h0 h1 h2 ⊢
          cases b <;> simp [Instr.sliceBounds, e, sliceBound_run (P := P) (code := .sliceB) (y := m.toNat) hk h0 (by omega) w]

omit [Glob] in
theorem oint_of {C : Ctx} {M : Mem} {bx : Nat → Option (List V)} {x : Option Operand} {f : Operand → V} {r : Option Int} (hov : ∀ y, OV C M lam bx (f y) (a.eval y)) (h : oint? (x.map f) = some r) :
    OI (x.map a.eval) r := by
  cases x with
  | none => simp [oint?] at h; subst h; trivial
  | some y =>
    simp only [Option.map_some, oint?] at h ⊢
    cases hn : (f y).int? with
    | none => rw [hn] at h; cases h
    | some p =>
      obtain ⟨k, n⟩ := p
      rw [hn] at h; cases h
      exact ⟨k, OV.int (hov y) hn⟩

omit [Glob] in
theorem take_drop_flatten {k : Nat} (es : List (List V)) (hk : ∀ e ∈ es, e.length = k) (l h : Nat) (i : Nat) (v : V) (hv : ((es.take h).drop l).flatten[i]? = some v) : es.flatten[l * k + i]? = some v := by
  have hk0 : 0 < k ∨ k = 0 := by omega
  rcases hk0 with hk0 | hk0
  · have hlen : ∀ e ∈ (es.take h).drop l, e.length = k := fun e he => hk e (List.mem_of_mem_take (List.mem_of_mem_drop he))
    have hi : i < ((es.take h).drop l).length * k := by
      rw [← flatten_len _ hlen]
      rcases Nat.lt_or_ge i ((es.take h).drop l).flatten.length with h' | h'
      · exact h'
      · rw [List.getElem?_eq_none h'] at hv; cases hv
    have hq : i / k < ((es.take h).drop l).length := Nat.div_lt_of_lt_mul (by rw [Nat.mul_comm]; exact hi)
    have he : ((es.take h).drop l)[i / k]? = some ((es.take h).drop l)[i / k] := List.getElem?_eq_getElem hq
    have h1 := flatten_get _ (i / k) (i % k) _ hlen he (Nat.mod_lt _ hk0)
    have hik : i / k * k + i % k = i := by rw [Nat.mul_comm]; exact Nat.div_add_mod i k
    rw [hik] at h1
    rw [h1] at hv
    have he2 : es[l + i / k]? = some ((es.take h).drop l)[i / k] := by
      rw [← he, List.getElem?_drop, List.getElem?_take]
      split
      · rfl
      · rename_i hn
        exfalso
        have : ((es.take h).drop l).length = min h es.length - l := by simp
        rw [this] at hq
        generalize i / k = q at *
        omega
    have h2 := flatten_get es (l + i / k) (i % k) _ hk he2 (Nat.mod_lt _ hk0)
    rw [show (l + i / k) * k + i % k = l * k + i by rw [Nat.add_mul]; omega] at h2
    rw [h2]; exact hv
  · subst hk0
    have : ∀ e ∈ (es.take h).drop l, e.length = 0 := fun e he => hk e (List.mem_of_mem_take (List.mem_of_mem_drop he))
    have hz := flatten_len _ this
    rw [List.getElem?_eq_none (by omega)] at hv; cases hv

theorem s_slice {oa : OA} (hE : EnvE P E) (h : FRs φ lam perm S a w.heap) {t : Nat} {x : Operand} {lo hi : Option Operand} (hop : o.op = .slice t x lo hi none)
    (hK : (match oint? (lo.map (evO S.tm oa.take 0)), oint? (hi.map (evO S.tm oa.take 0)) with
     | some l, some h => outSub (E.ti t).sh o.dst oa.take S.box S.hp (evO S.tm oa.take 0 x) l h
     | _, _ => .fail).wp K) : Does P o a w (R0 φ perm S a w o K) := by
  obtain ⟨hx, hrt⟩ := h.ev oa.take 0 x
  have hov : ∀ y, OV (mkC φ S.hp.length perm w.heap) w.heap lam S.box (evO S.tm oa.take 0 y) (a.eval y) := fun y => (h.ev oa.take 0 y).1
  split at hK
  · rename_i l hh hl0 hh0
    have hl := oint_of hov hl0
    have hhi := oint_of hov hh0
    unfold outSub at hK
    split at hK
    · rename_i s hs hv
      rw [hv] at hx
      have e := hx.raw
      have ht := (TIok.sh' hE.ok hs (by simp)).sh
      rw [hs] at ht
      dsimp only at hK
      obtain ⟨⟨h0, h1, h2⟩, hK⟩ := hK
      refine does_val h (x := .string (s.extract (l.getD 0).toNat (hh.getD s.size).toNat)) ?_ (VR.raw rfl).ov (.inr fun _ _ _ => by unfold Rt; trivial) hK
      simp [execOp, hop, Instr.sliceAt, Instr.slice, rU ht, e, bounds_run (P := P) false hl hhi h0 h1 h2 w]
    · rename_i el k' k es r hs hv
      rw [hv] at hx hrt
      obtain ⟨ht, inf, hinf, hk'⟩ : P.underlying t = some (.slice el) ∧ ∃ inf, P.info? el = some inf ∧ inf.size = k' := by have := (TIok.sh' hE.ok hs (by simp)).sh; rw [hs] at this; exact this
      dsimp only at hK
      split at hK
      · rename_i hkk; subst hkk
        obtain ⟨⟨h0, h1, h2⟩, hK⟩ := hK
        rcases hx.sl with ⟨rfl, e⟩ | ⟨b, off, cap, e, hcap, hke, vals, g1, g2, g3, g4, g5⟩
        · have hb := bounds_run (P := P) (len := 0) (cap := 0) true hl hhi h0 (by simpa using h1) (by simpa using h2) w
          have hz : (hh.getD (0 : Int)).toNat = 0 := by simp at h2; omega
          have hz' : (l.getD (0 : Int)).toNat = 0 := by simp at h1 h2; omega
          refine does_val h (x := .slice none 0 0) ?_ (v := .sl k [] (if hh.isNone && r % 3 != 0 then 2 else 0)) VR.slnil.ov (.inr fun _ _ _ => by unfold Rt; trivial) (by simpa using hK)
          simp at hb
          simp [execOp, hop, Instr.sliceAt, Instr.slice, rU ht, e, hb, rS hinf, hz]
        · have hb := bounds_run (P := P) (len := es.length) (cap := cap) true hl hhi h0 h1 (by omega) w
          generalize hL : (l.getD 0).toNat = L at *
          generalize hH : (hh.getD es.length).toNat = H at *
          have hLH : L ≤ H := by omega
          have hHl : H ≤ es.length := by omega
          have hlen : ((es.take H).drop L).length = H - L := by simp; omega
          refine does_val h (x := .slice (if cap = L then some ⟨b, off, none⟩ else some ⟨b, off + L * k, none⟩) (H - L) (cap - L)) ?_ (v := .sl k ((es.take H).drop L) (if hh.isNone && r % 3 != 0 then 2 else 0)) ?_ ?_ hK
          · simp only [execOp, hop, Instr.sliceAt, rU ht, Instr.slice, e, Option.map_none, hb, rS hinf, hk', Sem.run_bind, Result.andThen_ok, Option.map_some, Sem.run_pure, addA]
          · refine VR.ov ?_
            have hz2 : ∀ {X : Prop}, (if hh.isNone && r % 3 != 0 then 2 else 0) = 1 → X := fun h => by split at h <;> cases h
            by_cases hc : cap = L
            · have : H - L = 0 := by omega
              have hnil : (es.take H).drop L = [] := List.length_eq_zero_iff.1 (by omega)
              rw [if_pos hc, hnil, this]
              exact VR.sl (fun _ => undef) rfl (Nat.zero_le _) (by simp) (fun i hi => by simp at hi) (fun i v hv => by simp at hv) (by simp) (fun _ => hz2) (by split <;> omega)
            · rw [if_neg hc]
              refine VR.sl (fun i => vals (L * k + i)) hlen (by omega) (fun e he => hke e (List.mem_of_mem_take (List.mem_of_mem_drop he))) (fun i hi => ?_) (fun i v hv => ?_) (fun v hv => ?_) (fun _ => hz2) (by split <;> omega)
              · rw [Nat.add_assoc]
                refine g1 _ ?_
                have h1 : (L + (H - L)) * k ≤ es.length * k := Nat.mul_le_mul_right k (by omega)
                rw [Nat.add_mul] at h1; omega
              · exact g2 _ _ (take_drop_flatten es hke L H i v hv)
              · rw [List.mem_flatten] at hv
                obtain ⟨e, he, hv⟩ := hv
                exact g3 v (by rw [List.mem_flatten]; exact ⟨e, List.mem_of_mem_take (List.mem_of_mem_drop he), hv⟩)
          · by_cases hcond : (hh.isNone && r % 3 != 0) = true
            · rw [if_pos hcond]
              simp only [Bool.and_eq_true, bne_iff_ne, ne_eq] at hcond
              obtain ⟨hn, hr0⟩ := hcond
              have hhn : hh = none := by simpa using hn
              have hHe : H = es.length := by rw [hhn] at hH; simp at hH; omega
              have hr1 : 1 ≤ r % 3 := by omega
              rcases hrt with ⟨t0, ht0, hr⟩ | hr
              · refine .inl ⟨t0, ht0, ?_⟩
                rw [e] at hr
                unfold Rt at hr ⊢
                by_cases hc : cap = L
                · rw [if_pos hc]; dsimp only; intro _ hlt; omega
                · rw [if_neg hc]; dsimp only
                  intro _ hlt
                  obtain ⟨q1, c, elem, q2, q3⟩ := hr hr1 (by omega)
                  refine ⟨?_, c, elem, q2, ?_⟩
                  · show perm b = some (.sp (.t t0), off + L * k + (H - L) * k)
                    rw [Nat.add_assoc, ← Nat.add_mul, Nat.add_sub_cancel' hLH, hHe]; exact q1
                  · show off + L * k + (cap - L) * k ≤ c.size
                    rw [Nat.add_assoc, ← Nat.add_mul, show L + (cap - L) = cap by omega]; exact q3
              · have := hr (fun _ => none) #[] (.t 0)
                rw [e] at this
                unfold Rt at this
                have hcl : ¬ es.length < cap := fun hlt => by have := (this hr1 hlt).1; cases this
                refine .inr fun _ _ _ => ?_
                unfold Rt
                by_cases hc : cap = L
                · rw [if_pos hc]; dsimp only; intro _ hlt; omega
                · rw [if_neg hc]; dsimp only; intro _ hlt; omega
            · rw [if_neg hcond]
              refine .inr fun _ _ _ => ?_
              unfold Rt
              split <;> first | trivial | (rename_i e1 e2; cases e1; intro h; omega)
      · exact hK.elim
    · rename_i el k' b q k n c hs hv
      rw [hv] at hx
      obtain ⟨ht, inf, hinf, hk'⟩ : P.underlying t = some (.slice el) ∧ ∃ inf, P.info? el = some inf ∧ inf.size = k' := by have := (TIok.sh' hE.ok hs (by simp)).sh; rw [hs] at this; exact this
      dsimp only at hK
      split at hK
      · rename_i hkk; subst hkk
        obtain ⟨⟨h0, h1, h2, h3⟩, hK⟩ := hK
        obtain ⟨hb1, hnc, cap, hcc, hsz, e⟩ := VR.mslI hx
        have hb := bounds_run (P := P) (len := n) (cap := cap) true hl hhi h0 h1 (by omega) w
        generalize hL : (l.getD 0).toNat = L at *
        generalize hH : (hh.getD (n : Int)).toNat = H at *
        have hadr : (if cap = L then (⟨φ b, q, none⟩ : Addr) else ⟨φ b, q + L * k, none⟩) = ⟨φ b, q + L * k, none⟩ := by
          split
          · have : L = 0 := by omega
            rw [this]; simp
          · rfl
        refine does_val h (x := .slice (some ⟨φ b, q + L * k, none⟩) (H - L) (cap - L)) ?_ (VR.msl hb1 (by omega) (by omega) ?_).ov (.inr fun _ _ _ => by unfold Rt; trivial) hK
        · have e' : a.eval x = .slice (some ⟨φ b, q, none⟩) n cap := e
          have hif : (if cap = L then some (⟨φ b, q, none⟩ : Addr) else some ⟨φ b, q + L * k, none⟩) = some ⟨φ b, q + L * k, none⟩ := by
            rw [← hadr]; split <;> rfl
          simp only [execOp, hop, Instr.sliceAt, rU ht, Instr.slice, e', Option.map_none, hb, rS hinf, hk', Sem.run_bind, Result.andThen_ok, Option.map_some, Sem.run_pure, addA, hif]
        · rw [Nat.add_assoc, ← Nat.add_mul, show L + (cap - L) = cap by omega]; exact hsz
      · exact hK.elim
    · rename_i el k' b q k n c hs hv
      rw [hv] at hx
      obtain ⟨ht, inf, hinf, hk'⟩ : P.underlying t = some (.slice el) ∧ ∃ inf, P.info? el = some inf ∧ inf.size = k' := by have := (TIok.sh' hE.ok hs (by simp)).sh; rw [hs] at this; exact this
      dsimp only at hK
      split at hK
      · rename_i hkk; subst hkk
        obtain ⟨⟨h0, h1, h2, h3⟩, hK⟩ := hK
        obtain ⟨cs, hb1, hnc, hsz, e⟩ := hx
        have hb := bounds_run (P := P) (len := n) (cap := c) true hl hhi h0 h1 (by omega) w
        generalize hL : (l.getD 0).toNat = L at *
        generalize hH : (hh.getD (n : Int)).toNat = H at *
        have hif : (if c = L then some (⟨lam b, q, none⟩ : Addr) else some ⟨lam b, q + L * k, none⟩) = some ⟨lam b, q + L * k, none⟩ := by
          split
          · have : L = 0 := by omega
            rw [this]; simp
          · rfl
        refine does_val h (v := .lmsl b (q + L * k) k (H - L) (c - L)) (x := .slice (some ⟨lam b, q + L * k, none⟩) (H - L) (c - L)) ?_ ⟨cs, hb1, by omega, ?_, rfl⟩ (.inr fun _ _ _ => by unfold Rt; trivial) hK
        · simp only [execOp, hop, Instr.sliceAt, rU ht, Instr.slice, e, Option.map_none, hb, rS hinf, hk', Sem.run_bind, Result.andThen_ok, Option.map_some, Sem.run_pure, addA, hif]
        · rw [Nat.add_assoc, ← Nat.add_mul, show L + (c - L) = c by omega]; exact hsz
      · exact hK.elim
    · rename_i n el k s q hs hv
      rw [hv] at hx
      obtain ⟨ht, inf, hinf, hk'⟩ : P.underlying t = some (.array n el) ∧ ∃ inf, P.info? el = some inf ∧ inf.size = k := by have := (TIok.sh' hE.ok hs (by simp)).sh; rw [hs] at this; exact this
      dsimp only at hK
      split at hK
      · rename_i cs hcs
        split at hK
        · rename_i hfit
          obtain ⟨⟨h0, h1, h2, h3⟩, hK⟩ := hK
          have e := hx.2
          have hb := bounds_run (P := P) (len := n) (cap := n) false hl hhi h0 h1 (by omega) w
          generalize hL : (l.getD 0).toNat = L at *
          generalize hH : (hh.getD (n : Int)).toNat = H at *
          have hif : (if n = L then (⟨lam s, q, none⟩ : Addr) else ⟨lam s, q + L * k, none⟩) = ⟨lam s, q + L * k, none⟩ := by
            split
            · have : L = 0 := by omega
              rw [this]; simp
            · rfl
          refine does_val h (v := .lmsl s (q + L * k) k (H - L) (n - L)) (x := .slice (some ⟨lam s, q + L * k, none⟩) (H - L) (n - L)) ?_ ⟨cs, hcs, by omega, ?_, rfl⟩ (.inr fun _ _ _ => by unfold Rt; trivial) hK
          · simp only [execOp, hop, Instr.sliceAt, rU ht, Instr.sureAddr, e, Option.map_none, hb, rS hinf, hk', Sem.run_bind, Result.andThen_ok, Sem.run_pure, addA, hif]
          · rw [Nat.add_assoc, ← Nat.add_mul, show L + (n - L) = n by omega]; exact hfit
        · exact hK.elim
      · exact hK.elim
    · rename_i n el k b q hs hv
      rw [hv] at hx
      obtain ⟨ht, inf, hinf, hk'⟩ : P.underlying t = some (.array n el) ∧ ∃ inf, P.info? el = some inf ∧ inf.size = k := by have := (TIok.sh' hE.ok hs (by simp)).sh; rw [hs] at this; exact this
      dsimp only at hK
      split at hK
      · rename_i cs hcs
        split at hK
        · rename_i hfit
          obtain ⟨⟨h0, h1, h2, h3⟩, hK⟩ := hK
          obtain ⟨-, arr, elem, hM, hrow⟩ := h.hr.cells b cs hcs
          have hM' : w.heap[φ b]? = some (.cells arr elem (0, 0)) := hM
          obtain ⟨e0, hbn⟩ := VR.ptrI hx
          have e : a.eval x = .pointer (some ⟨φ b, q, none⟩) := e0
          have hb := bounds_run (P := P) (len := n) (cap := n) false hl hhi h0 h1 (by omega) w
          generalize hL : (l.getD 0).toNat = L at *
          generalize hH : (hh.getD (n : Int)).toNat = H at *
          have hif : (if n = L then (⟨φ b, q, none⟩ : Addr) else ⟨φ b, q + L * k, none⟩) = ⟨φ b, q + L * k, none⟩ := by
            split
            · have : L = 0 := by omega
              rw [this]; simp
            · rfl
          refine does_val h (v := .msl b (q + L * k) k (H - L) (n - L)) (x := .slice (some ⟨φ b, q + L * k, none⟩) (H - L) (n - L)) ?_ (VR.msl hbn (by omega) (Nat.le_refl _) ?_).ov (.inr fun _ _ _ => by unfold Rt; trivial) hK
          · simp only [execOp, hop, Instr.sliceAt, rU ht, Instr.sureAddr, e, Option.map_none, hb, rS hinf, hk', Sem.run_bind, Result.andThen_ok, Sem.run_pure, addA, hif]
          · have hle := hrow.1
            show q + L * k + (n - L) * k ≤ blockSize w.heap (φ b)
            rw [blockSize_cells hM', Nat.add_assoc, ← Nat.add_mul, show L + (n - L) = n by omega]; omega
        · exact hK.elim
      · exact hK.elim
    · rename_i el k' g ver q n hs hv
      rw [hv] at hx
      obtain ⟨ht, inf, hinf, hk'⟩ : P.underlying t = some (.slice el) ∧ ∃ inf, P.info? el = some inf ∧ inf.size = k' := by have := (TIok.sh' hE.ok hs (by simp)).sh; rw [hs] at this; exact this
      dsimp only at hK
      split at hK
      · rename_i k cs ver' hg
        split at hK
        · rename_i hc
          obtain ⟨rfl, rfl⟩ := hc
          obtain ⟨⟨h0, h1, h2, h3⟩, hK⟩ := hK
          obtain ⟨r, off, cap, arr, elem, N, v1, -, -, -, -, v6, v7, -⟩ := h.hr.vecs g k cs ver hg
          obtain ⟨r2, off2, cap2, k2, v2, hcap, e⟩ := VR.gsI hx
          rw [v1] at v2; cases v2
          have hN : q + (hh.getD (n : Int)).toNat ≤ N := by
            rw [v6] at h2
            exact Nat.le_of_mul_le_mul_right h2 h3
          have hb := bounds_run (P := P) (len := n) (cap := cap - q) true hl hhi h0 h1 (by omega) w
          generalize hL : (l.getD 0).toNat = L at *
          generalize hH : (hh.getD (n : Int)).toNat = H at *
          have hLH : L ≤ H := by omega
          have hrun : (execOp a.eval o).run P w = .ok (.value (.slice (if cap - q = L then some ⟨r, off + q * k, none⟩ else some ⟨r, off + q * k + L * k, none⟩) (H - L) (cap - q - L))) w := by
            simp only [execOp, hop, Instr.sliceAt, rU ht, Instr.slice, e, Option.map_none, hb, rS hinf, hk', Sem.run_bind, Result.andThen_ok, Option.map_some, Sem.run_pure, addA]
          by_cases hcc : L ≠ 0 ∧ L = H
          · rw [if_pos hcc] at hK
            have hz0 : H - L = 0 := by omega
            refine does_val h hrun (v := .sl k [] 0) ?_ (.inr fun _ _ _ => by unfold Rt; split <;> first | trivial | (rename_i e1 e2; cases e1; intro h; omega)) hK
            rw [hz0]
            refine VR.ov ?_
            split <;> exact VR.sl (fun _ => undef) rfl (Nat.zero_le _) (by simp) (fun i hi => by simp at hi) (fun i v hv => by simp at hv) (by simp) (fun _ h => by cases h) (by omega)
          · rw [if_neg hcc] at hK
            have hif : (if cap - q = L then some (⟨r, off + q * k, none⟩ : Addr) else some ⟨r, off + q * k + L * k, none⟩) = some ⟨r, off + (q + L) * k, none⟩ := by
              split
              · have : L = 0 := by omega
                rw [this]; simp
              · rw [Nat.add_mul, Nat.add_assoc]
            rw [hif, Nat.sub_sub] at hrun
            exact does_val h hrun (VR.gs v1 (by omega)).ov (Rts.non trivial) hK
        · exact hK.elim
      · exact hK.elim
    · exact hK.elim
  · exact hK.elim

omit [Glob] in
theorem bounds3_run {len cap : Nat} {lo hi : Option Value} {mx : Value} {l h m : Int} (hl : OI lo (some l)) (hh : OI hi (some h)) (hm : OI (some mx) (some m))
    (h0 : 0 ≤ l) (h1 : l ≤ h) (h2 : h ≤ m) (h3 : m ≤ cap) (w : World) :
    (Instr.sliceBounds true len cap lo hi (some mx)).run P w = .ok (l.toNat, h.toNat, m.toNat) w := by
  obtain ⟨km, rfl⟩ := hm
  cases hi with
  | none => exact hh.elim
  | some v =>
    obtain ⟨kh, rfl⟩ := hh
    cases lo with
    | none => exact hl.elim
    | some u =>
      obtain ⟨kl, rfl⟩ := hl
      have e1 := fun code => sliceBound_run (P := P) (code := code) (v := .int km m) (y := cap) rfl (by omega : (0:Int) ≤ m) (by omega) w
      have e2 := fun code => sliceBound_run (P := P) (code := code) (v := .int kh h) (y := m.toNat) rfl (by omega : (0:Int) ≤ h) (by omega) w
      have e3 := fun code => sliceBound_run (P := P) (code := code) (v := .int kl l) (y := h.toNat) rfl h0 (by omega) w
      simp [Instr.sliceBounds, e1, e2, e3]

theorem s_slice3 {oa : OA} (hE : EnvE P E) (h : FRs φ lam perm S a w.heap) {t : Nat} {x mx : Operand} {lo hi : Option Operand} (hop : o.op = .slice t x lo hi (some mx))
    (hK : (match oint? (lo.map (evO S.tm oa.take 0)), oint? (hi.map (evO S.tm oa.take 0)), oint? (some (evO S.tm oa.take 0 mx)) with
     | some l, some h, some m => outSub3 (E.ti t).sh o.dst oa.take (evO S.tm oa.take 0 x) l h m
     | _, _, _ => .fail).wp K) : Does P o a w (R0 φ perm S a w o K) := by
  obtain ⟨hx, hrt⟩ := h.ev oa.take 0 x
  have hov : ∀ y, OV (mkC φ S.hp.length perm w.heap) w.heap lam S.box (evO S.tm oa.take 0 y) (a.eval y) := fun y => (h.ev oa.take 0 y).1
  split at hK
  · rename_i l hh m hl0 hh0 hm0
    have hl := oint_of hov hl0
    have hhi := oint_of hov hh0
    have hmx : OI (some (a.eval mx)) m := oint_of (x := some mx) hov hm0
    have dead : (∃ y, (execOp a.eval o).run P w = .ok (.value y) w) → (Out.val o.dst oa.take .dead).wp K → Does P o a w (R0 φ perm S a w o K) := fun ⟨y, hrun⟩ hK =>
      does_val h hrun (v := .dead) trivial (Rts.non trivial) hK
    unfold outSub3 at hK
    split at hK
    · rename_i el k' k es r l h' m hs hv
      rw [hv] at hx
      obtain ⟨ht, inf, hinf, hk'⟩ : P.underlying t = some (.slice el) ∧ ∃ inf, P.info? el = some inf ∧ inf.size = k' := by have := (TIok.sh' hE.ok hs (by simp)).sh; rw [hs] at this; exact this
      obtain ⟨⟨h0, h1, h2, h3⟩, hK⟩ := hK
      rcases hx.sl with ⟨rfl, e⟩ | ⟨b, off, cap, e, hcap, -⟩
      · have hb := bounds3_run (P := P) (len := 0) (cap := 0) hl hhi hmx h0 h1 h2 (by simpa using h3) w
        have hz1 : m.toNat = 0 := by simp at h3; omega
        have hz2 : h'.toNat = 0 := by simp at h3; omega
        have hz3 : l.toNat = 0 := by simp at h3; omega
        rw [hz1, hz2, hz3] at hb
        refine dead ⟨.slice none 0 0, ?_⟩ hK
        simp [execOp, hop, Instr.sliceAt, Instr.slice, rU ht, e, hb, rS hinf]
      · have hb := bounds3_run (P := P) (len := es.length) (cap := cap) hl hhi hmx h0 h1 h2 (by omega) w
        refine dead ⟨.slice (if m.toNat = l.toNat then some ⟨b, off, none⟩ else some ⟨b, off + l.toNat * k', none⟩) (h'.toNat - l.toNat) (m.toNat - l.toNat), ?_⟩ hK
        · simp only [execOp, hop, Instr.sliceAt, rU ht, Instr.slice, e, Option.map_some, hb, rS hinf, hk', Sem.run_bind, Result.andThen_ok, Sem.run_pure, addA]
    · rename_i el k' g ver q n l h' m hs hv
      rw [hv] at hx
      obtain ⟨ht, inf, hinf, hk'⟩ : P.underlying t = some (.slice el) ∧ ∃ inf, P.info? el = some inf ∧ inf.size = k' := by have := (TIok.sh' hE.ok hs (by simp)).sh; rw [hs] at this; exact this
      obtain ⟨⟨h0, h1, h2, h3⟩, hK⟩ := hK
      obtain ⟨r2, off2, cap2, k2, v2, hcap, e⟩ := VR.gsI hx
      have hb := bounds3_run (P := P) (len := n) (cap := cap2 - q) hl hhi hmx h0 h1 h2 (by omega) w
      refine dead ⟨.slice (if m.toNat = l.toNat then some ⟨r2, off2 + q * k2, none⟩ else some ⟨r2, off2 + q * k2 + l.toNat * k', none⟩) (h'.toNat - l.toNat) (m.toNat - l.toNat), ?_⟩ hK
      · simp only [execOp, hop, Instr.sliceAt, rU ht, Instr.slice, e, Option.map_some, hb, rS hinf, hk', Sem.run_bind, Result.andThen_ok, Sem.run_pure, addA]
    · exact hK.elim
  · exact hK.elim
end
end Go.Hx

/-
  Hx, part 13: conversions, lookups, parts put together.
-/
namespace Go.Hx
open Go

section
variable {P : Program} {E : Env} [Glob] {φ : Phi} {lam : Nat → Nat} {perm : Perm} {S : St} {a : Act} {w : World} {o : Oper} {K : Upd → Prop}

omit [Glob] in
theorem push_fold : ∀ (ns : List Int) (s : ByteArray), ns.foldl (fun r n => r.push (UInt8.ofNat n.toNat)) s = ⟨s.data ++ (ns.map fun n => UInt8.ofNat n.toNat).toArray⟩
  | [], s => by simp
  | n :: ns, s => by
    rw [List.foldl_cons, push_fold ns]
    congr 1
    show (s.data.push _) ++ _ = _
    apply Array.ext'
    simp

omit [Glob] in
theorem toBytes_spec {C : Ctx} : ∀ (cs : List V) (l : List UInt8), toBytes cs = some l → ∃ ns : List Int, l = ns.map (fun n => UInt8.ofNat n.toNat) ∧ cs = ns.map (fun n => V.raw (.int .u8 n))
  | [], l, h => by cases h; exact ⟨[], rfl, rfl⟩
  | v :: r, l, h => by
    cases v with
    | raw x =>
      cases x with
      | int k n =>
        cases k <;> simp only [toBytes] at h <;> try (cases h; done)
        cases hr : toBytes r with
        | none => rw [hr] at h; cases h
        | some l' =>
          rw [hr] at h; cases h
          obtain ⟨ns, h1, h2⟩ := toBytes_spec (C := C) r l' hr
          exact ⟨n :: ns, by simp [h1], by simp [h2]⟩
      | _ => simp [toBytes] at h
    | _ => simp [toBytes] at h

omit [Glob] in
theorem bytes_run {C : Ctx} {r off len cap : Nat} {cs : List V} {l : List UInt8} (hl : cs.length = len) (hr : ∀ (i : Nat) v, cs[i]? = some v → ∃ x, cellAt w.heap r (off + i) = some x ∧ VR C v x) (hb : toBytes cs = some l) :
    (Conv.bytesToString (.slice (some ⟨r, off, none⟩) len cap)).run P w = .ok (.string ⟨l.toArray⟩) w := by
  obtain ⟨ns, h1, h2⟩ := toBytes_spec (C := C) cs l hb
  have hlen : ns.length = len := by rw [← hl, h2]; simp
  have hld : (loadCells ⟨r, off, none⟩ (ns.map (Value.int .u8)).length).run P w = .ok (ns.map (Value.int .u8)).toArray w := run_loadCells_list w _ _ fun j v hj => by
    simp only [List.getElem?_map] at hj
    cases hn : ns[j]? with
    | none => rw [hn] at hj; cases hj
    | some n =>
      rw [hn] at hj; simp at hj; subst hj
      obtain ⟨x, hx, hv⟩ := hr j (.raw (.int .u8 n)) (by rw [h2]; simp [hn])
      have : x = .int .u8 n := by cases hv; rfl
      subst this
      rw [addA, cell?_eq]; exact hx
  have := run_bytesToString (P := P) w ⟨r, off, none⟩ len cap ns (by simpa [hlen] using hld)
  rw [this, push_fold, h1]
  congr 3
  show (#[] ++ _ : Array UInt8) = _
  simp

theorem s_convert {oa : OA} (hE : EnvE P E) (h : FRs φ lam perm S a w.heap) {src dt : Nat} {x : Operand} (hop : o.op = .convert src dt x)
    (hK : (match (E.ti src).sh, (E.ti dt).sh, evO S.tm oa.take 0 x with
    | .int _, .int k, .raw (.int _ n) => Out.val o.dst oa.take (.raw (.int k (k.wrap n)))
    | .str, .str, .raw (.string s) => .val o.dst oa.take (.raw (.string s))
    | .slice e _, .str, .sl k es _ =>
      (match (E.ti e).sh with
       | .int .u8 => if k = 1 then .opt o.dst oa.take (bytesV es.flatten) else .fail
       | _ => .fail)
    | .slice e _, .str, .msl b q k n _ =>
      (match (E.ti e).sh, S.hp[b]? with
       | .int .u8, some (.cells cs) => if k = 1 ∧ q + n ≤ cs.length then .opt o.dst oa.take (bytesV ((cs.drop q).take n)) else .fail
       | _, _ => .fail)
    | .slice e _, .str, .lmsl s q k n _ =>
      (match (E.ti e).sh, S.box s with
       | .int .u8, some cs => if k = 1 ∧ q + n ≤ cs.length then .opt o.dst oa.take (bytesV ((cs.drop q).take n)) else .fail
       | _, _ => .fail)
    | _, _, _ => .fail).wp K) : Does P o a w (R0 φ perm S a w o K) := by
  obtain ⟨hx, hrt⟩ := h.ev oa.take 0 x
  have ex : ∀ {z : Value}, (convert src dt (a.eval x)).run P w = .ok z w → (execOp a.eval o).run P w = .ok (.value z) w := fun hr => by simp [execOp, hop, hr]
  split at hK
  · rename_i k0 k k1 n hs hd hv
    rw [hv] at hx
    have h1 := (TIok.sh' hE.ok hs (by simp)).sh
    have h2 := (TIok.sh' hE.ok hd (by simp)).sh
    rw [hs] at h1; rw [hd] at h2
    exact does_val h (x := .int k (k.wrap n)) (ex (by simp [convert, rU h1, rU h2, hx.raw, Conv.intToInt])) (VR.raw rfl).ov (.inr fun _ _ _ => by unfold Rt; trivial) hK
  · rename_i s hs hd hv
    rw [hv] at hx
    have h1 := (TIok.sh' hE.ok hs (by simp)).sh
    have h2 := (TIok.sh' hE.ok hd (by simp)).sh
    rw [hs] at h1; rw [hd] at h2
    exact does_val h (x := .string s) (ex (by simp [convert, rU h1, rU h2, hx.raw])) (VR.raw rfl).ov (.inr fun _ _ _ => by unfold Rt; trivial) hK
  · rename_i e ke k es r hs hd hv
    rw [hv] at hx
    obtain ⟨h1, -⟩ : P.underlying src = some (.slice e) ∧ _ := by have := (TIok.sh' hE.ok hs (by simp)).sh; rw [hs] at this; exact this
    have h2 := (TIok.sh' hE.ok hd (by simp)).sh
    rw [hd] at h2
    split at hK
    · rename_i he
      have h3 := (TIok.sh' hE.ok he (by simp)).sh
      rw [he] at h3
      split at hK
      · rename_i hk1; subst hk1
        refine does_opt h hK fun v hv => ?_
        unfold bytesV at hv
        cases hb : toBytes es.flatten with
        | none => rw [hb] at hv; cases hv
        | some l =>
          rw [hb] at hv; cases hv
          refine ⟨.string ⟨l.toArray⟩, ex ?_, (VR.raw rfl).ov, .inr fun _ _ _ => by unfold Rt; trivial⟩
          rcases hx.sl with ⟨rfl, e⟩ | ⟨b, off, cap, e, hcap, hke, vals, g1, g2, g3, g4⟩
          · simp [toBytes] at hb; subst hb
            rw [e, run_convert_bytes_string w src dt _ _ _ _ h1 h3 h2]; rfl
          · rw [e, run_convert_bytes_string w src dt _ _ _ _ h1 h3 h2]
            refine bytes_run (by rw [flatten_len es hke]; simp) (fun i v hv => ⟨vals i, rd_cell (g1 i ?_), g2 i v hv⟩) hb
            rw [← flatten_len es hke]
            rcases Nat.lt_or_ge i es.flatten.length with h' | h'
            · exact h'
            · rw [List.getElem?_eq_none h'] at hv; cases hv
      · exact hK.elim
    · exact hK.elim
  · rename_i e ke b q k n c hs hd hv
    rw [hv] at hx
    obtain ⟨h1, -⟩ : P.underlying src = some (.slice e) ∧ _ := by have := (TIok.sh' hE.ok hs (by simp)).sh; rw [hs] at this; exact this
    have h2 := (TIok.sh' hE.ok hd (by simp)).sh
    rw [hd] at h2
    split at hK
    · rename_i cs he hcs
      have h3 := (TIok.sh' hE.ok he (by simp)).sh
      rw [he] at h3
      split at hK
      · rename_i hkq
        obtain ⟨hk1, hfit⟩ := hkq
        refine does_opt h hK fun v hv => ?_
        unfold bytesV at hv
        cases hb : toBytes ((cs.drop q).take n) with
        | none => rw [hb] at hv; cases hv
        | some l =>
          rw [hb] at hv; cases hv
          refine ⟨.string ⟨l.toArray⟩, ex ?_, (VR.raw rfl).ov, .inr fun _ _ _ => by unfold Rt; trivial⟩
          obtain ⟨hb1, -, cap, -, -, e⟩ := VR.mslI hx
          obtain ⟨-, arr, elem, hM, hrow⟩ := h.hr.cells b cs hcs
          have hrd := hrow.reads hM
          rw [e, run_convert_bytes_string w src dt _ _ _ _ h1 h3 h2]
          refine bytes_run (C := mkC φ S.hp.length perm w.heap) (by simp; omega) (fun i v hv => ?_) hb
          obtain ⟨ns, -, hns⟩ := toBytes_spec (C := mkC φ S.hp.length perm w.heap) _ _ hb
          have hnd : v ≠ .dead := fun hd => by
            rw [hns, List.getElem?_map] at hv
            cases hn : ns[i]? with
            | none => rw [hn] at hv; cases hv
            | some z => rw [hn] at hv; simp at hv; rw [← hv] at hd; cases hd
          rw [List.getElem?_take] at hv
          split at hv
          · rw [List.getElem?_drop] at hv
            obtain ⟨x, hx1, hx2⟩ := hrd (q + i) v hv
            refine ⟨x, by rw [Nat.zero_add] at hx1; exact hx1, ?_⟩
            rcases hx2 with hd | hx2
            · exact absurd hd hnd
            · exact hx2.2
          · cases hv
      · exact hK.elim
    · exact hK.elim
  · rename_i e ke s q k n c hs hd hv
    rw [hv] at hx
    obtain ⟨h1, -⟩ : P.underlying src = some (.slice e) ∧ _ := by have := (TIok.sh' hE.ok hs (by simp)).sh; rw [hs] at this; exact this
    have h2 := (TIok.sh' hE.ok hd (by simp)).sh
    rw [hd] at h2
    split at hK
    · rename_i cs he hcs
      have h3 := (TIok.sh' hE.ok he (by simp)).sh
      rw [he] at h3
      split at hK
      · rename_i hkq
        obtain ⟨hk1, hfit⟩ := hkq
        refine does_opt h hK fun v hv => ?_
        unfold bytesV at hv
        cases hb : toBytes ((cs.drop q).take n) with
        | none => rw [hb] at hv; cases hv
        | some l =>
          rw [hb] at hv; cases hv
          refine ⟨.string ⟨l.toArray⟩, ex ?_, (VR.raw rfl).ov, .inr fun _ _ _ => by unfold Rt; trivial⟩
          obtain ⟨cs', hcs', -, -, e⟩ := hx
          rw [hcs] at hcs'; cases hcs'
          obtain ⟨-, arr, elem, hM, hrow⟩ := h.br s cs hcs
          have hrd := hrow.reads hM
          rw [e, run_convert_bytes_string w src dt _ _ _ _ h1 h3 h2]
          refine bytes_run (C := mkC φ S.hp.length perm w.heap) (by simp; omega) (fun i v hv => ?_) hb
          obtain ⟨ns, -, hns⟩ := toBytes_spec (C := mkC φ S.hp.length perm w.heap) _ _ hb
          have hnd : v ≠ .dead := fun hd => by
            rw [hns, List.getElem?_map] at hv
            cases hn : ns[i]? with
            | none => rw [hn] at hv; cases hv
            | some z => rw [hn] at hv; simp at hv; rw [← hv] at hd; cases hd
          rw [List.getElem?_take] at hv
          split at hv
          · rw [List.getElem?_drop] at hv
            obtain ⟨x, hx1, hx2⟩ := hrd (q + i) v hv
            refine ⟨x, by rw [Nat.zero_add] at hx1; exact hx1, ?_⟩
            rcases hx2 with hd | hx2
            · exact absurd hd hnd
            · exact hx2.2
          · cases hv
      · exact hK.elim
    · exact hK.elim
  · exact hK.elim

/-- a row of an aggregate: cells by cells -/
structure AR (C : Ctx) (cs : List V) (arr : Array Value) : Prop where
  size : arr.size = cs.length
  each : ∀ (i : Nat) v, cs[i]? = some v → v.cell = true ∧ ∃ x, arr[i]? = some x ∧ VR C v x ∧ ∀ perm M p, Rt perm M p v x

omit [Glob] in
theorem nil_rt {C : Ctx} {v : V} {x : Value} (h : VR C v x) (hn : nilOk v = true) (perm : Perm) (M : Mem) (p : Pos) : Rt perm M p v x := by
  cases v with
  | sl k es r =>
    rcases OV.sl (M := #[]) (lam := id) (bx := fun _ => none) (h.ov) with ⟨rfl, e⟩ | ⟨b, off, cap, e, hcap, hke, vals, g1, g2, g3, g4, g5⟩
    · rw [e]; unfold Rt; trivial
    · rw [e]; unfold Rt
      intro h1 h2
      exfalso
      simp only [nilOk, Bool.or_eq_true, beq_iff_eq, Bool.and_eq_true, List.isEmpty_iff] at hn
      rcases hn with (hn | hn) | ⟨hn1, hn2⟩
      · omega
      · exact g5 hn
      · have := g4 hn1 hn2; omega
  | _ => unfold Rt; trivial

omit [Glob] in
theorem cells_rel {C : Ctx} {v : V} {x : Value} (h : VR C v x) (hc : v.cells.all cellOk = true) : AR C v.cells x.cells := by
  cases v with
  | agg cs =>
    obtain ⟨arr, e, h1, h2, h3⟩ := OV.agg (M := #[]) (lam := id) (bx := fun _ => none) (h.ov)
    subst e
    refine ⟨h1, fun i u hu => ?_⟩
    have hok := List.all_eq_true.1 hc u (List.mem_of_getElem? hu)
    simp only [cellOk, Bool.and_eq_true] at hok
    obtain ⟨y, hy, hvr⟩ := h3 i u hu
    exact ⟨hok.1, y, hy, hvr, nil_rt hvr hok.2⟩
  | _ =>
    simp only [V.cells, List.all_cons, List.all_nil, Bool.and_true, cellOk, Bool.and_eq_true] at hc
    have h1 := h.one_of_cell hc.1
    have hx : x.cells = #[x] := by cases x <;> simp [one] at h1 <;> rfl
    refine ⟨by rw [hx]; rfl, fun i u hu => ?_⟩
    cases i with
    | zero => simp [V.cells] at hu; subst hu; exact ⟨hc.1, x, by rw [hx]; rfl, h, nil_rt h hc.2⟩
    | succ i => simp [V.cells] at hu

omit [Glob] in
theorem zero_ar {C : Ctx} {zs : List V} {z : Value} (h : ZeroR zs z) : AR C zs z.cells :=
  ⟨h.len, fun i v hv => by
    obtain ⟨h1, x, h2, h3, h4⟩ := h.each i v hv
    exact ⟨h1, x, h2, h3 C, h4⟩⟩

/-- cells written over a row, in the model's words -/
def putCells (arr : Array Value) (off : Nat) (l : List Value) : Array Value := l.zipIdx.foldl (fun cs (c, j) => cs.setIfInBounds (off + j) c) arr

omit [Glob] in
theorem setRange_len : ∀ (vs cs : List V) (o : Nat), (setRange cs o vs).length = cs.length
  | [], cs, o => rfl
  | v :: vs, cs, o => by simp [setRange, setRange_len vs]

omit [Glob] in
theorem setRange_get : ∀ (vs cs : List V) (o i : Nat), o + vs.length ≤ cs.length → (setRange cs o vs)[i]? = if o ≤ i ∧ i < o + vs.length then vs[i - o]? else cs[i]?
  | [], cs, o, i, _ => by
    simp only [setRange, List.length_nil, Nat.add_zero]
    rw [if_neg (by omega)]
  | v :: vs, cs, o, i, h => by
    simp only [List.length_cons] at h
    rw [setRange, setRange_get vs (cs.set o v) (o + 1) i (by simp; omega)]
    by_cases h1 : i = o
    · subst h1
      rw [if_neg (by omega), if_pos (by simp)]
      have : i < cs.length := by omega
      simp [this]
    · by_cases h2 : o + 1 ≤ i ∧ i < o + 1 + vs.length
      · rw [if_pos h2, if_pos (by simp; omega)]
        have : i - o = (i - (o + 1)) + 1 := by omega
        rw [this]; simp
      · rw [if_neg h2, if_neg (by simp; omega), List.getElem?_set]
        simp [Ne.symm h1]

omit [Glob] in
theorem foldIdx_get : ∀ (l : List Value) (k : Nat) (arr : Array Value) (off i : Nat), off + k + l.length ≤ arr.size →
    ((l.zipIdx k).foldl (fun cs (c, j) => cs.setIfInBounds (off + j) c) arr).size = arr.size ∧
    ((l.zipIdx k).foldl (fun cs (c, j) => cs.setIfInBounds (off + j) c) arr)[i]? = if off + k ≤ i ∧ i < off + k + l.length then l[i - (off + k)]? else arr[i]?
  | [], k, arr, off, i, _ => by
    simp only [List.zipIdx_nil, List.foldl_nil, List.length_nil, Nat.add_zero]
    rw [if_neg (by omega)]; exact ⟨trivial, rfl⟩
  | c :: l, k, arr, off, i, h => by
    simp only [List.length_cons] at h
    simp only [List.zipIdx_cons, List.foldl_cons]
    obtain ⟨h1, h2⟩ := foldIdx_get l (k + 1) (arr.setIfInBounds (off + k) c) off i (by simp; omega)
    refine ⟨by rw [h1]; simp, ?_⟩
    rw [h2]
    by_cases hi : i = off + k
    · subst hi
      rw [if_neg (by omega), if_pos (by simp)]
      have : off + k < arr.size := by omega
      simp [this]
    · by_cases h3 : off + (k + 1) ≤ i ∧ i < off + (k + 1) + l.length
      · rw [if_pos h3, if_pos (by simp; omega)]
        have : i - (off + k) = (i - (off + (k + 1))) + 1 := by omega
        rw [this]; simp
      · rw [if_neg h3, if_neg (by simp; omega), Array.getElem?_setIfInBounds]
        simp [Ne.symm hi]

omit [Glob] in
theorem AR.put {C : Ctx} {cs vs : List V} {arr xs : Array Value} {off : Nat} (h : AR C cs arr) (hv : AR C vs xs) (hfit : off + vs.length ≤ cs.length) :
    AR C (setRange cs off vs) (xs.zipIdx.foldl (fun cs (c, j) => cs.setIfInBounds (off + j) c) arr) := by
  have hl : xs.toList.length = vs.length := by simpa using hv.size
  have key := fun i => foldIdx_get xs.toList 0 arr off i (by rw [hl, h.size]; omega)
  have e : xs.zipIdx.foldl (fun cs (c, j) => cs.setIfInBounds (off + j) c) arr = (xs.toList.zipIdx 0).foldl (fun cs (c, j) => cs.setIfInBounds (off + j) c) arr := by
    rw [← Array.foldl_toList]; simp
  rw [e]
  refine ⟨by rw [(key 0).1, h.size, setRange_len], fun i v hiv => ?_⟩
  rw [setRange_get vs cs off i hfit] at hiv
  rw [(key i).2, hl]
  simp only [Nat.add_zero]
  split at hiv
  · rename_i hc
    rw [if_pos hc]
    obtain ⟨h1, x, h2, h3⟩ := hv.each _ _ hiv
    exact ⟨h1, x, by simpa using h2, h3⟩
  · rename_i hc
    rw [if_neg hc]
    exact h.each _ _ hiv

omit [Glob] in
theorem fill_sound {C : Ctx} {place : Nat → Option (Nat × Nat)} : ∀ (pv : List (Nat × V)) (px : List (Nat × Value)) (cs cs' : List V) (arr : Array Value), AR C cs arr → pv.length = px.length →
    (∀ (j : Nat) p q, pv[j]? = some p → px[j]? = some q → p.1 = q.1 ∧ (p.2.cells.all cellOk = true → VR C p.2 q.2)) → fillV place cs pv = some cs' →
    ∃ arr', Instr.fill place arr px = some arr' ∧ AR C cs' arr'
  | [], [], cs, cs', arr, h, _, _, hf => by cases hf; exact ⟨arr, rfl, h⟩
  | p :: pv, q :: px, cs, cs', arr, h, hl, hall, hf => by
    obtain ⟨i, v⟩ := p
    obtain ⟨i', x⟩ := q
    obtain ⟨e1, e2⟩ := hall 0 _ _ rfl rfl
    simp only at e1 e2; subst e1
    simp only [fillV] at hf
    simp only [Instr.fill]
    cases hp : place i with
    | none => rw [hp] at hf; cases hf
    | some os =>
      obtain ⟨off, size⟩ := os
      rw [hp] at hf
      dsimp only at hf ⊢
      split at hf
      · rename_i hc
        obtain ⟨h1, h2, h3⟩ := hc
        have hv := cells_rel (e2 h3) h3
        rw [if_neg (by
          have := hv.size
          have := h.size
          simp only [ne_eq, Bool.or_eq_true, decide_eq_true_eq, not_or, Decidable.not_not]
          omega)]
        exact fill_sound pv px _ cs' _ (h.put hv (by omega)) (by simpa using hl) (fun j p q hp hq => hall (j + 1) p q (by simpa using hp) (by simpa using hq)) hf
      · cases hf
  | [], _ :: _, _, _, _, _, h, _, _ => by simp at h
  | _ :: _, [], _, _, _, _, h, _, _ => by simp at h

end
end Go.Hx

/-
  Hx, part 14: structs put together, maps asked.
-/
namespace Go.Hx
open Go

/-- a map's keys: what the model's search comes to -/
structure KeyOK (P : Program) (kt ar : Nat) : Prop where
  check : ∀ (C : Ctx) (k : V) (x : Value) (em : Bool) (w : World), keyOk ar k = true → VR C k x → (Instr.checkKey em 10000 kt x).run P w = .ok () w
  find : ∀ (C : Ctx) (k : V) (x : Value) (es : List (V × V)) (l : List MapEntry) (w : World), keyOk ar k = true → VR C k x → es.length = l.length →
    (∀ (i : Nat) k' v', es[i]? = some (k', v') → ∃ e : MapEntry, l[i]? = some e ∧ keyOk ar k' = true ∧ VR C k' e.key) →
    (Instr.findKey kt x l).run P w = .ok ((idxK es k 0).bind fun i => (l[i]?).map fun e => (i, e.val)) w
  same : ∀ (C : Ctx) (k k' : V) (x x' : Value) (w : World), keyOk ar k = true → keyOk ar k' = true → keyEq k k' = true → VR C k x → VR C k' x' → (Instr.keyThatStays x' x).run P w = .ok x w

structure EnvM (P : Program) (E : Env) : Prop extends EnvE P E where
  key : ∀ t k e, (E.ti t).sh = .map k e → KeyOK P k (arOf E k)

section
variable {P : Program} {E : Env} [Glob] {φ : Phi} {lam : Nat → Nat} {perm : Perm} {S : St} {a : Act} {w : World} {o : Oper} {K : Upd → Prop}

omit [Glob] in
theorem places_run (w : World) : ∀ (fs : List Field) (r : List (Nat × Nat)), fs.length = r.length → (∀ (j : Nat) f, fs[j]? = some f → ∃ p inf, r[j]? = some p ∧ p.1 = f.offset ∧ P.info? f.type = some inf ∧ inf.size = p.2) →
    (fs.mapM fun f => (do pure (f.offset, ← sizeOf f.type) : Sem (Nat × Nat))).run P w = .ok r w
  | [], [], _, _ => by simp
  | f :: fs, p :: r, hl, h => by
    obtain ⟨p', inf, h1, h2, h3, h4⟩ := h 0 f rfl
    simp at h1; subst h1
    have ih := places_run w fs r (by simpa using hl) (fun j g hg => by obtain ⟨q, i, k1, k2⟩ := h (j + 1) g (by simpa using hg); exact ⟨q, i, by simpa using k1, k2⟩)
    rw [List.mapM_cons]
    simp only [Sem.run_bind, rS h3, Result.andThen_ok, Sem.run_pure, ih]
    rw [← h2, h4]
  | [], _ :: _, h, _ => by simp at h
  | _ :: _, [], h, _ => by simp at h

omit [Glob] in
theorem cells_vr {C : Ctx} {M : Mem} {bx : Nat → Option (List V)} {v : V} {x : Value} (h : OV C M lam bx v x) (hc : v.cells.all cellOk = true) : VR C v x := by
  cases v <;> simp only [OV] at h <;> first | exact h | (simp [V.cells, cellOk, V.cell] at hc)

theorem parts_ok (h : FRs φ lam perm S a w.heap) (take : List Nat) (kf : Nat → Nat) (parts : Array (Nat × Operand)) (j : Nat) (p : Nat × V) (q : Nat × Value)
    (hp : (partsV (evO S.tm take) kf parts.toList)[j]? = some p) (hq : (parts.map fun (i, x) => (i, a.eval x)).toList[j]? = some q) :
    p.1 = q.1 ∧ (p.2.cells.all cellOk = true → VR (mkC φ S.hp.length perm w.heap) p.2 q.2) := by
  simp only [partsV, List.getElem?_map, Array.toList_map] at hp hq
  cases hj : parts.toList[j]? with
  | none => rw [hj] at hp; cases hp
  | some pr =>
    rw [hj] at hp hq; simp at hp hq; subst hp; subst hq
    exact ⟨rfl, fun hc => cells_vr (h.ev take (kf pr.1) pr.2).1.strip hc⟩

theorem s_build {oa : OA} (hE : EnvE P E) (h : FRs φ lam perm S a w.heap) {t : Nat} {parts : Array (Nat × Operand)} (hop : o.op = .build t parts)
    (hK : (match (E.ti t).sh with
    | .struct fs => Out.opt o.dst oa.take ((fillV (placeS fs) (E.ti t).zero (partsV (evO S.tm oa.take) (fun i => E.kOf (fieldT fs i)) parts.toList)).map .agg)
    | .arr _ elem k => .opt o.dst oa.take ((fillV (placeA k) (E.ti t).zero (partsV (evO S.tm oa.take) (fun _ => E.kOf elem) parts.toList)).map .agg)
    | _ => .fail).wp K) : Does P o a w (R0 φ perm S a w o K) := by
  have parts_ok := fun kf => parts_ok h oa.take kf parts
  have fin : ∀ {place : Nat → Option (Nat × Nat)} {pv : List (Nat × V)}, (TIok P t (E.ti t)) → (Out.opt o.dst oa.take ((fillV place (E.ti t).zero pv).map .agg)).wp K →
      pv.length = parts.size → (∀ (j : Nat) p q, pv[j]? = some p → (parts.map fun (i, x) => (i, a.eval x)).toList[j]? = some q → p.1 = q.1 ∧ (p.2.cells.all cellOk = true → VR (mkC φ S.hp.length perm w.heap) p.2 q.2)) →
      (∀ z arr', (zeroValue t).run P w = .ok z w → Instr.fill place z.cells (parts.map fun (i, x) => (i, a.eval x)).toList = some arr' → (Instr.build t (parts.map fun (i, x) => (i, a.eval x))).run P w = .ok (.agg arr') w) → Does P o a w (R0 φ perm S a w o K) := by
    intro place pv ht hK hl hpq hrun
    obtain ⟨inf, hi, -, -, z, hz, hzr, -⟩ := ht.info
    refine does_opt h hK fun v hv => ?_
    cases hf : fillV place (E.ti t).zero pv with
    | none => rw [hf] at hv; cases hv
    | some cs' =>
      rw [hf] at hv; cases hv
      obtain ⟨arr', h1, h2⟩ := fill_sound (C := mkC φ S.hp.length perm w.heap) pv (parts.map fun (i, x) => (i, a.eval x)).toList _ _ z.cells (zero_ar hzr) (by simpa using hl) hpq hf
      refine ⟨.agg arr', by simp [execOp, hop, hrun z arr' (rZ hi hz w) h1], VR.ov ?_, .inr fun _ _ _ => by unfold Rt; trivial⟩
      refine VR.agg (fun i => (arr'[i]?).getD undef) h2.size (fun i hi => ?_) (fun i v hv => ?_) (fun v hv => ?_)
      · have : i < arr'.size := by rw [h2.size]; exact hi
        simp [this]
      · obtain ⟨-, x, hx, hvr, -⟩ := h2.each i v hv
        rw [hx]; exact hvr
      · obtain ⟨i, hi⟩ := List.mem_iff_getElem?.1 hv
        exact (h2.each i v hi).1
  split at hK
  · rename_i fs hs
    have ht := TIok.sh' hE.ok hs (by simp)
    have hsh := ht.sh
    rw [hs] at hsh
    obtain ⟨fields, hu, hl, hf⟩ := hsh
    refine fin ht hK (by simp [partsV]) (parts_ok (fun i => E.kOf (fieldT fs i))) fun z arr' hz hfill => ?_
    have hpl := places_run (P := P) w fields.toList (fs.map fun f => (f.1, f.2.1)) (by simpa using hl) (fun j f hj => by
      have hjl : j < fs.length := by
        rw [← hl]
        rcases Nat.lt_or_ge j fields.size with h' | h'
        · exact h'
        · rw [List.getElem?_eq_none (by simpa using h')] at hj; cases hj
      obtain ⟨fd, k1, k2, k3, inf, k4, k5⟩ := hf j fs[j] (by simp [hjl])
      have : f = fd := by
        have k1' : fields.toList[j]? = some fd := by simpa using k1
        rw [hj] at k1'; exact Option.some.inj k1'
      subst this
      exact ⟨(fs[j].1, fs[j].2.1), inf, by simp [hjl], k2.symm, k4, k5⟩)
    have hmap : (fields.mapM fun f => (do pure (f.offset, ← sizeOf f.type) : Sem (Nat × Nat))).run P w = .ok (fs.map fun f => (f.1, f.2.1)).toArray w := by
      obtain ⟨l⟩ := fields
      rw [List.mapM_toArray]
      rw [Sem.run_map, hpl]; rfl
    have hplace : placeS fs = ((fs.map fun f => (f.1, f.2.1)).toArray[·]?) := by
      funext i; simp [placeS]
    rw [hplace] at hfill
    simp only [Instr.build, Sem.run_bind, hz, Result.andThen_ok, rU hu, hmap, hfill, Sem.run_pure]
  · rename_i n elem k hs
    have ht := TIok.sh' hE.ok hs (by simp)
    have hsh := ht.sh
    rw [hs] at hsh
    obtain ⟨hu, inf, hinf, hk⟩ := hsh
    refine fin ht hK (by simp [partsV]) (parts_ok (fun _ => E.kOf elem)) fun z arr' hz hfill => ?_
    simp only [Instr.build, Sem.run_bind, hz, Result.andThen_ok, rU hu, rS hinf, hk]
    have hfill' : Instr.fill (fun i => some (i * k, k)) z.cells (parts.map fun (i, x) => (i, a.eval x)).toList = some arr' := hfill
    rw [hfill']; rfl
  · exact hK.elim

omit [Glob] in
theorem idxK_find : ∀ (es : List (V × V)) (k : V) (i0 : Nat), (idxK es k i0 = none ∧ findK es k = none) ∨ ∃ i k' v, idxK es k i0 = some (i0 + i) ∧ es[i]? = some (k', v) ∧ findK es k = some v ∧ keyEq k k' = true
  | [], k, i0 => .inl ⟨rfl, rfl⟩
  | (k', v) :: es, k, i0 => by
    simp only [idxK, findK]
    by_cases h : keyEq k k' = true
    · rw [if_pos h, if_pos h]
      exact .inr ⟨0, k', v, rfl, rfl, rfl, h⟩
    · rw [if_neg h, if_neg h]
      rcases idxK_find es k (i0 + 1) with ⟨h1, h2⟩ | ⟨i, k1, v1, h1, h2, h3, h4⟩
      · exact .inl ⟨h1, h2⟩
      · exact .inr ⟨i + 1, k1, v1, by rw [h1]; congr 1; omega, by simpa using h2, h3, h4⟩

omit [Glob] in
theorem zero_ov {C : Ctx} {E : Env} {t : Nat} (ht : TIok P t (E.ti t)) : ∃ z, (∀ w, (zeroValue t).run P w = .ok z w) ∧ VR C (zeroOf E t) z ∧ ∀ perm M p, Rt perm M p (zeroOf E t) z := by
  obtain ⟨inf, hi, -, -, z, hz, hzr, hlen, hag, hag'⟩ := ht.info
  refine ⟨z, fun w => rZ hi hz w, ?_, ?_⟩
  · unfold zeroOf
    split
    · rename_i ha
      obtain ⟨cs, rfl⟩ := hag ha
      refine VR.agg (fun i => (cs[i]?).getD undef) hzr.len (fun i hi => ?_) (fun i v hv => ?_) (fun v hv => ?_)
      · have : i < cs.size := by have := hzr.len; simp only [Value.cells] at this; omega
        simp [this]
      · obtain ⟨-, x, hx, hvr, -⟩ := hzr.each i v hv
        have hx' : cs[i]? = some x := hx
        rw [hx']; exact hvr C
      · obtain ⟨i, hi⟩ := List.mem_iff_getElem?.1 hv
        exact (hzr.each i v hi).1
    · rename_i ha
      have h1 := hag' (by simpa using ha)
      have hc : z.cells = #[z] := by cases z <;> simp [one] at h1 <;> rfl
      have hl : (E.ti t).zero.length = 1 := by have := hzr.len; rw [hc] at this; simpa using this.symm
      match hzz : (E.ti t).zero, hl with
      | [v], _ =>
        obtain ⟨-, x, hx, hvr, -⟩ := hzr.each 0 v (by rw [hzz]; rfl)
        rw [hc] at hx; simp at hx; subst hx
        exact hvr C
  · intro perm M p
    unfold zeroOf
    split
    · unfold Rt; trivial
    · rename_i ha
      have h1 := hag' (by simpa using ha)
      have hc : z.cells = #[z] := by cases z <;> simp [one] at h1 <;> rfl
      have hl : (E.ti t).zero.length = 1 := by have := hzr.len; rw [hc] at this; simpa using this.symm
      match hzz : (E.ti t).zero, hl with
      | [v], _ =>
        obtain ⟨-, x, hx, -, hr⟩ := hzr.each 0 v (by rw [hzz]; rfl)
        rw [hc] at hx; simp at hx; subst hx
        exact hr perm M p

omit [Glob] in
theorem strip_ov {φ : Phi} {nb : Nat} {M : Mem} {bx : Nat → Option (List V)} {v : V} {x : Value} {ar : Nat} (h : OV (mkC φ nb perm M) M lam bx v x) (hk : keyOk ar v.strip = true) : VR (mkC φ nb perm M) v.strip x := by
  cases v <;> simp only [V.strip, keyOk] at hk ⊢ <;> first | exact h | cases hk

theorem s_lookup {oa : OA} (hE : EnvM P E) (h : FRs φ lam perm S a w.heap) {t : Nat} {m k : Operand} {ok : Bool} (hop : o.op = .lookup t m k ok)
    (hK : (match (E.ti t).sh, evO S.tm oa.take 0 m with
     | .map kt elem, .map r => (match S.hp[r]? with
       | some (.map ar es) => if ar = arOf E kt ∧ (E.ti elem).ok then outLookup o.dst oa.take (zeroOf E elem) ok ar es (evO S.tm oa.take 0 k).strip else .fail
       | _ => .fail)
     | _, _ => .fail).wp K) : Does P o a w (R0 φ perm S a w o K) := by
  obtain ⟨hm, -⟩ := h.ev oa.take 0 m
  obtain ⟨hk, -⟩ := h.ev oa.take 0 k
  split at hK
  · rename_i kt elem r hs hv
    rw [hv] at hm
    have ht := (TIok.sh' hE.ok hs (by simp)).sh
    rw [hs] at ht
    have hkey := hE.key t kt elem hs
    split at hK
    · rename_i ar es he
      split at hK
      · rename_i hc
        obtain ⟨rfl, hok⟩ := hc
        unfold outLookup at hK
        split at hK
        · rename_i hko
          obtain ⟨-, ents, clock, hM, hmr⟩ := h.hr.maps r _ es he
          have hM' : w.heap[φ r]? = some (.map ents clock) := hM
          have hkv := strip_ov hk hko
          have em : a.eval m = .map (some (φ r)) := (VR.mapI hm).1
          have hfind := hkey.find _ _ _ es ents.toList w hko hkv (by simpa using hmr.size.symm) (fun i k' v' hi => by
            obtain ⟨e, h1, h2, h3, -⟩ := hmr.ent i k' v' hi
            exact ⟨e, by simpa using h1, h2, h3⟩)
          have hcheck := hkey.check _ _ _ ents.isEmpty w hko hkv
          obtain ⟨z, hz, hzv, hzr⟩ := zero_ov (C := mkC φ S.hp.length perm w.heap) (hE.ok elem hok)
          have hres : ∀ (v : V) (x : Value), VR (mkC φ S.hp.length perm w.heap) v x → ∀ b : Bool, VR (mkC φ S.hp.length perm w.heap) (.tup [v, if b then .tt else .ff]) (.tuple #[x, .bool b]) := by
            intro v x hv b
            refine VR.tup (fun i => if i = 0 then x else .bool b) rfl (fun i hi => ?_) (fun i u hu => ?_)
            · simp at hi
              rcases Nat.lt_or_ge i 1 with h' | h'
              · have : i = 0 := by omega
                subst this; rfl
              · have : i = 1 := by omega
                subst this; rfl
            · match i, hu with
              | 0, hu => simp at hu; subst hu; exact hv
              | 1, hu => simp at hu; subst hu; cases b <;> first | exact VR.tt | exact VR.ff
          rcases idxK_find es (evO S.tm oa.take 0 k).strip 0 with ⟨h1, h2⟩ | ⟨i, k', v, h1, h2, h3, h4⟩
          · rw [h1] at hfind
            have hK := hK.2 h2
            cases ok
            · refine does_val h (x := z) ?_ (v := zeroOf E elem) hzv.ov (.inr hzr) (by simpa using hK)
              simp [execOp, hop, Instr.lookup, rU ht, em, getObj, Sem.run, hM', hcheck, hfind, hz]
            · refine does_val h (x := .tuple #[z, .bool false]) ?_ (v := .tup [zeroOf E elem, .ff]) (hres _ _ hzv false).ov (.inr fun _ _ _ => by unfold Rt; trivial) (by simpa using hK)
              simp [execOp, hop, Instr.lookup, rU ht, em, getObj, Sem.run, hM', hcheck, hfind, hz]
          · rw [h1] at hfind
            have hK := hK.1 v h3
            obtain ⟨e, k1, -, -, k2, -⟩ := hmr.ent i k' v h2
            have k1' : ents[i]? = some e := k1
            simp only [Nat.zero_add, Option.bind_some, Array.getElem?_toList, k1', Option.map_some] at hfind
            cases ok
            · refine does_val h (x := e.val) ?_ (v := v.strip) k2.strip.ov Rts.strip (by simpa using hK)
              simp [execOp, hop, Instr.lookup, rU ht, em, getObj, Sem.run, hM', hcheck, hfind]
            · refine does_val h (x := .tuple #[e.val, .bool true]) ?_ (v := .tup [v.strip, .tt]) (hres _ _ k2.strip true).ov (.inr fun _ _ _ => by unfold Rt; trivial) (by simpa using hK)
              simp [execOp, hop, Instr.lookup, rU ht, em, getObj, Sem.run, hM', hcheck, hfind]
        · exact hK.elim
      · exact hK.elim
    · exact hK.elim
  · exact hK.elim
end
end Go.Hx

/-
  Hx, part 15: new memory, stores.
-/
namespace Go.Hx
open Go

section
variable {P : Program} {E : Env} [Glob] {φ : Phi} {lam : Nat → Nat} {perm : Perm} {S : St} {a : Act} {w : World} {o : Oper} {K : Upd → Prop}

def ownP (perm : Perm) (r : Nat) (h : Holder) (lo : Nat) : Perm := fun x => if x = r then some (h, lo) else perm x

omit [Glob] in
theorem AR.row {C C' : Ctx} {perm' : Perm} {M' : Mem} {p : Nat → Pos} {cs : List V} {arr : Array Value} (h : AR C cs arr) (hC : C.le C') : RowR C' perm' M' p cs arr :=
  ⟨by rw [h.size]; exact Nat.le_refl _, fun i v hv => by
    obtain ⟨h1, x, h2, h3, h4⟩ := h.each i v hv
    exact ⟨x, h2, .inr ⟨h1, h3.mono hC, h4 _ _ _⟩⟩⟩

omit [Glob] in
theorem push_last {M : Mem} {o : Obj} : (M.push o)[M.size]? = some o := by simp

/-- the world with one block more -/
def addB (w : World) (o : Obj) : World := { w with heap := w.heap.push o }

theorem result_tw {φ' : Phi} {lam' : Nat → Nat} {S1 : St} {M1 : Mem} (h : FRs φ' lam' perm S1 a M1) (take : List Nat) (d : Nat) {v : V} {x : Value} (hv : OV (mkC φ' S1.hp.length perm M1) M1 lam' S1.box v x) (hr : ∀ p M p', Rt p M p' v x) :
    FRs φ' lam' perm { S1 with tm := ((take.map fun t => (t, V.dead)) ++ [(d, v)]).foldl (fun tm p => tm.set p.1 p.2) S1.tm } (a.put (some d) x) M1 := by
  rw [dstw]
  exact (h.kills take).setT (TV.of hv (hr _ _ _))

theorem does_new {oa : OA} {elem : Nat} {cs : List V} {arr : Array Value} (h : FRs φ lam perm S a w.heap) (har : cs.all cellOk = true → AR (mkC φ S.hp.length perm w.heap) cs arr)
    (hrun : (execOp a.eval o).run P w = .ok (.value (.pointer (some ⟨w.heap.size, 0, none⟩))) (addB w (.cells arr elem)))
    (hK : (outAlloc o.dst oa.take oa.mode S.box S.hp cs).wp K) : Does P o a w (R0 φ perm S a w o K) := by
  unfold outAlloc at hK
  split at hK
  · exact hK.elim
  · rename_i d hd
    split at hK
    · rename_i hc
      have har := har hc
      have hpush : ∀ h0 : Holder, FRs φ lam (ownP perm w.heap.size h0 0) S a (w.heap.push (.cells arr elem)) ∧ Evo w.heap perm (w.heap.push (.cells arr elem)) (ownP perm w.heap.size h0 0) := fun h0 =>
        ⟨h.pushed _ (fun r hr => by simp [ownP, Nat.ne_of_lt hr]) (fun r hr => by
          simp only [ownP]; rw [if_neg (by omega)]; exact h.fresh r (by omega)), Evo.push _ (fun r hr => by simp [ownP, Nat.ne_of_lt hr])⟩
      split at hK
      · obtain ⟨hp, hE⟩ := hpush (.hb S.hp.length)
        have hC : (mkC φ S.hp.length perm w.heap).le (mkC φ S.hp.length (ownP perm w.heap.size (.hb S.hp.length) 0) (w.heap.push (.cells arr elem))) := hE.le (fun _ _ => rfl) (Nat.le_refl _)
        have hadd := hp.addHeap (r := w.heap.size) (cs := cs) (arr := arr) (elem := elem) push_last (by simp [ownP]) (har.row hC)
        refine .inl ⟨_, _, hrun, _, hK, ?_⟩
        rw [hd]
        refine ⟨⟨_, _, _, result_tw hadd oa.take d (v := .ptr S.hp.length 0) ?_ (fun _ _ _ => by unfold Rt; trivial), hE, fun b hb => by simp [Phi.upd, Nat.ne_of_lt hb], fun _ _ _ h => h⟩, by simp [St.apply], rfl, rfl, rfl⟩
        have := VR.ptr (C := mkC (φ.upd S.hp.length w.heap.size) (S.hp ++ [HObj.cells cs]).length (ownP perm w.heap.size (.hb S.hp.length) 0) (w.heap.push (.cells arr elem))) (b := S.hp.length) (o := 0) (by simp [mkC])
        simpa [mkC, OV] using this
      · split at hK
        · rename_i hn
          have hn : S.box d = none := by simpa using hn
          obtain ⟨hp, hE⟩ := hpush (.lb d)
          have hC : (mkC φ S.hp.length perm w.heap).le (mkC φ S.hp.length (ownP perm w.heap.size (.lb d) 0) (w.heap.push (.cells arr elem))) := hE.le (fun _ _ => rfl) (Nat.le_refl _)
          have hadd := hp.addBox (r := w.heap.size) (s := d) (cs := cs) (arr := arr) (elem := elem) hn push_last (by simp [ownP]) (har.row hC)
          refine .inl ⟨_, _, hrun, _, hK, ?_⟩
          rw [hd]
          refine ⟨⟨_, _, _, result_tw hadd oa.take d (v := .lptr d 0) ⟨?_, by simp⟩ (fun _ _ _ => by unfold Rt; trivial), hE, fun _ _ => rfl, fun _ _ _ h => h⟩, Nat.le_refl _, rfl, rfl, rfl⟩
          simp [St.box, look_setBx]
        · exact hK.elim
    · exact hK.elim

omit [Glob] in
theorem run_newVar (t : Nat) (v : Value) (w : World) : (newVar t v).run P w = .ok ⟨w.heap.size, 0, none⟩ (addB w (.cells v.cells t)) := by
  simp [newVar, newRow, newObj, Sem.run, addB]

theorem s_alloc {oa : OA} (hE : EnvE P E) (h : FRs φ lam perm S a w.heap) {t : Nat} (hop : o.op = .alloc t)
    (hK : (if (E.ti t).ok then outAlloc o.dst oa.take oa.mode S.box S.hp (E.ti t).zero else .fail).wp K) : Does P o a w (R0 φ perm S a w o K) := by
  split at hK
  · rename_i hok
    obtain ⟨inf, hi, -, -, z, hz, hzr, -⟩ := (hE.ok t hok).info
    refine does_new (elem := t) h (fun _ => zero_ar hzr) ?_ hK
    simp [execOp, hop, Instr.alloc, rZ hi hz, run_newVar]
  · exact hK.elim

theorem s_box {oa : OA} (h : FRs φ lam perm S a w.heap) {t : Nat} {x : Operand} (hop : o.op = .box t x)
    (hK : (outAlloc o.dst oa.take oa.mode S.box S.hp (evO S.tm oa.take 0 x).strip.cells).wp K) : Does P o a w (R0 φ perm S a w o K) := by
  obtain ⟨hx, -⟩ := h.ev oa.take 0 x
  refine does_new (elem := t) h (fun hc => cells_rel (cells_vr hx.strip hc) hc) ?_ hK
  simp [execOp, hop, Instr.box, run_newVar]

omit [Glob] in
theorem store_row {C : Ctx} {M : Mem} {p : Nat → Pos} {cs vs : List V} {arr : Array Value} {xs : List Value} {q : Nat} (h : RowR C perm M p cs arr) (hl : xs.length = vs.length) (hfit : q + vs.length ≤ cs.length)
    (hv : ∀ (i : Nat) v, vs[i]? = some v → ∃ x, xs[i]? = some x ∧ v.cell = true ∧ VR C v x ∧ Rt perm M (p (q + i)) v x) :
    RowR C perm M p (setRange cs q vs) (arr.toList.take q ++ xs ++ arr.toList.drop (q + xs.length)).toArray ∧ (arr.toList.take q ++ xs ++ arr.toList.drop (q + xs.length)).toArray.size = arr.size := by
  have hsz : arr.size = arr.toList.length := by simp
  have hle := h.1
  have hsize : (arr.toList.take q ++ xs ++ arr.toList.drop (q + xs.length)).toArray.size = arr.size := by
    simp; omega
  refine ⟨⟨by rw [setRange_len, hsize]; exact hle, fun i v hi => ?_⟩, hsize⟩
  rw [setRange_get vs cs q i hfit] at hi
  have hq : (arr.toList.take q).length = q := by simp; omega
  split at hi
  · rename_i hc
    obtain ⟨x, h1, h2, h3, h4⟩ := hv _ _ hi
    refine ⟨x, ?_, .inr ⟨h2, h3, by rwa [show q + (i - q) = i by omega] at h4⟩⟩
    simp only [List.getElem?_toArray]
    rw [List.append_assoc, List.getElem?_append_right (by omega), hq, List.getElem?_append_left (by omega)]
    exact h1
  · rename_i hc
    obtain ⟨x, h1, h2⟩ := h.2 i v hi
    refine ⟨x, ?_, h2⟩
    have h1' : arr.toList[i]? = some x := by simpa using h1
    simp only [List.getElem?_toArray]
    by_cases hiq : i < q
    · rw [List.append_assoc, List.getElem?_append_left (by omega), List.getElem?_take, if_pos hiq]; exact h1'
    · rw [List.getElem?_append_right (by simp; omega), List.getElem?_drop]
      simp only [List.length_append, hq]
      rw [show q + xs.length + (i - (q + xs.length)) = i by omega]; exact h1'

omit [Glob] in
theorem setRow_heap' {w : World} {r : Nat} {arr cs : Array Value} {elem : Nat} {fz : Nat × Nat} (h : w.heap[r]? = some (.cells arr elem fz)) : (w.setRow r cs).heap = w.heap.setIfInBounds r (.cells cs elem fz) := by
  apply Array.ext_getElem?
  intro i
  by_cases e : i = r
  · subst e
    rw [setRow_heap w i arr cs elem fz h, set_get (lt_of_some h), if_pos rfl]
  · rw [setRow_other w r i cs e, set_get (lt_of_some h), if_neg (Ne.symm e)]

omit [Glob] in
theorem one_cell {v : Value} (h : Hx.one v = true) : v.oneCell' = true := by cases v <;> simp_all [Hx.one, Value.oneCell']

omit [Glob] in
theorem storeVar_run {t : Nat} {ti : TI} (ht : TIok P t ti) {r q elem : Nat} {arr : Array Value} {x : Value} (hM : w.heap[r]? = some (.cells arr elem (0, 0))) (hsz : x.cells.size = ti.size) (hfit : q + ti.size ≤ arr.size)
    (h1 : ∀ y ∈ x.cells.toList, Hx.one y = true) :
    (storeVar t ⟨r, q, none⟩ x).run P w = .ok () (w.setRow r (arr.toList.take q ++ x.cells.toList ++ arr.toList.drop (q + x.cells.toList.length)).toArray) := by
  obtain ⟨inf, hi, hs, -⟩ := ht.info
  have := run_storeCells_at (P := P) r q elem x.cells.toList 0 arr w hM (by simp; omega) (fun v hv => one_cell (h1 v hv))
  simp only [Nat.add_zero] at this
  simp only [storeVar, Sem.run_bind, rS hi, Result.andThen_ok, hs, hsz, ne_eq, not_true_eq_false, if_false]
  exact this

end
end Go.Hx
