/-
  NodeNone: a nil node does nothing: the given statement, for every deed. No condition beyond the given row and its tie.
-/
import Derived.Test.YtkdmemhinolcnaaGreatDoorRun
import Derived.Test.YtkdmemhinolcnaaGreatDoorTie
import Derived.Test.YtkdmemhinolcnaaGreatDoorCards
import Derived.SevenTiedAt
import Derived.ProofKit
import Derived.LaidMore
import Derived.OpenShut
import Derived.Stop.Joined
namespace Go.Proofs.YtkdmemhinolcnaaGreatDoor
open Go Go.Hx Go.ChangeShapes Go.WideShapes Go.RowKit
set_option maxRecDepth 1000000

theorem awake_ok : CallOK Tryz.prog 11 [] [] (.raw (.bool true)) [] ∧ Enters Tryz.prog 11 := by
  have h := awake_run
  unfold okT at h
  split at h
  · rename_i h11 hr
    obtain ⟨h1, h2⟩ := eCall_ok envm foll tabs 50 11 [] [] _ _ (gCall_some 50 11 [] [] _ hr)
    exact ⟨h1.forget, h2⟩
  · cases h

theorem callX_ok : ∀ (f : Nat) (vs : List V) (hp : Heap) (v : V) (hp' : Heap), callX f vs hp = some (v, hp') → CallOK Tryz.prog f vs hp v hp' ∧ Enters Tryz.prog f := by
  intro f vs hp v hp' h
  unfold callX at h
  split at h
  · rename_i hb
    simp only [Option.some.injEq, Prod.mk.injEq] at h
    obtain ⟨rfl, rfl⟩ := h
    rw [Nat.eq_of_beq_eq_true hb]
    exact awake_ok
  · exact eCall_ok envm foll tabs 50 _ _ _ _ _ h

theorem law_ok (K : Int) (ni : Nat → Int) (si : Nat → ByteArray) (bi : Nat → Bool) : ∃ v hp', CallOK Tryz.prog 3 [V.agg (.raw (.int .i64 K) :: (mkX ni si bi 1 ks.tail).map .raw)] [] v hp' ∧ v.bool? = some true := by
  have h := run_all ni si bi K
  unfold runIt okB at h
  split at h
  · rename_i e S hr
    simp only [Bool.and_eq_true] at h
    obtain ⟨he, h⟩ := h
    split at h
    · rename_i v hv
      split at h
      · rename_i b hb
        subst h
        refine ⟨v, S.hp, body_ok envm foll callX_ok Tryz.func3 (c := body3) (A := mk3) (by rfl) (by kernel_rfl) hr ?_ hv, hb⟩
        cases e with
        | exit id => cases he
        | normal => exact .inl rfl
        | ret => exact .inr rfl
      · cases h
    · cases h
  · cases h

theorem own : ownKnob Tryz.prog.godebug = none := by kernel_rfl

def n32 : List Int := [0, 1, 28, 2, 29, 14, 24, 3, 30, 22, 20, 15, 25, 17, 4, 8, 31, 27, 13, 23, 21, 19, 16, 7, 26, 12, 18, 6, 11, 5, 10, 9]
def n64 : List Int := [0, 1, 56, 2, 57, 49, 28, 3, 61, 58, 42, 50, 38, 29, 17, 4, 62, 47, 59, 36, 45, 43, 51, 22, 53, 39, 33, 30, 24, 18, 12, 5, 63, 55, 48, 27, 60, 41, 37, 16, 46, 35, 44, 21, 52, 32, 23, 11, 54, 26, 40, 15, 34, 20, 31, 10, 25, 14, 19, 9, 13, 8, 7, 6]
def n10 : List Int := [1, 10, 100, 1000, 10000, 100000, 1000000, 10000000, 100000000, 1000000000, 10000000000, 100000000000, 1000000000000, 10000000000000, 100000000000000, 1000000000000000, 10000000000000000, 100000000000000000, 1000000000000000000, 10000000000000000000]

abbrev laid3 : List (String × DataW Unit) := [("math/bits.deBruijn32tab", Rows.laid_math_bits_deBruijn32tab), ("math/bits.deBruijn64tab", Rows.laid_math_bits_deBruijn64tab), ("internal/strconv.uint64pow10", Rows.laid_internal_strconv_uint64pow10)]

theorem door_met (os : Os) (args : Array Value) : laidMetH Tryz.prog laid3 ((World.doorLaid Tryz.prog 400 os).forCall (fun _ _ => 0) ⟨#[], args, []⟩).memory :=
  laidMetH_of_parts3 (fuel := 8) (laidMet_of_run' 8 (by kernel_rfl) (by kernel_rfl)) (by kernel_rfl) (by kernel_rfl)

theorem gl_ok {W : World} (h : laidMetH Tryz.prog laid3 W) : GlOK (fun _ => none) W.heap := by
  rw [MakeChecks.laidMetH_plain _ _ _ (by kernel_rfl)] at h
  obtain ⟨ps, ⟨g0, t0, cs0, f0, p0, q0, hg0, ht0, hv0, hd0, ⟨g1, t1, cs1, f1, p1, q1, hg1, ht1, hv1, hd1, ⟨g2, t2, cs2, f2, p2, q2, hg2, ht2, hv2, hd2, _, _⟩, _⟩, _⟩, _, _⟩ := h
  have e0 : g0 = 1 := Option.some.inj (hg0.symm.trans (show Tryz.prog.globalNamed "math/bits.deBruijn32tab" = some 1 by kernel_rfl))
  have e1 : g1 = 2 := Option.some.inj (hg1.symm.trans (show Tryz.prog.globalNamed "math/bits.deBruijn64tab" = some 2 by kernel_rfl))
  have e2 : g2 = 0 := Option.some.inj (hg2.symm.trans (show Tryz.prog.globalNamed "internal/strconv.uint64pow10" = some 0 by kernel_rfl))
  subst e0 e1 e2
  have e0 : t0 = 262 := Option.some.inj (ht0.symm.trans (show (Tryz.prog.globals[1]?).map (·.type) = some 262 by kernel_rfl))
  have e1 : t1 = 263 := Option.some.inj (ht1.symm.trans (show (Tryz.prog.globals[2]?).map (·.type) = some 263 by kernel_rfl))
  have e2 : t2 = 260 := Option.some.inj (ht2.symm.trans (show (Tryz.prog.globals[0]?).map (·.type) = some 260 by kernel_rfl))
  subst e0 e1 e2
  intro g i v hv
  match g with
  | 0 => exact laid_row (ns := n10) (k := .u64) (e := 227) (n := 20) hg2 hv2 (by kernel_rfl) (by kernel_rfl) (by kernel_rfl) hd2 i v hv
  | 1 => exact laid_row (ns := n32) (k := .u8) (e := 5) (n := 32) hg0 hv0 (by kernel_rfl) (by kernel_rfl) (by kernel_rfl) hd0 i v hv
  | 2 => exact laid_row (ns := n64) (k := .u8) (e := 5) (n := 64) hg1 hv1 (by kernel_rfl) (by kernel_rfl) (by kernel_rfl) hd1 i v hv
  | g + 3 => exact absurd hv (by show ([] : List V)[i]? ≠ some v; simp)

theorem lifted (os : Os) (started : os.Started) (H : Type) (enc : TypeId × Value → H) :
    ReturnsInHanded {} Tryz.checked os 3 .any (fun w args => (Rows.nodeNoneSpec.pre enc Tryz.prog Tryz.f3 [] false w args ∧ laidMetH Tryz.prog laid3 w) ∧ sizedMet enc Tryz.prog Tryz.f3 (OpenSpec.ofChange Rows.nodeNoneSpec) false w args)
      (Rows.nodeNoneSpec.post enc Tryz.prog Tryz.f3 false true false false) := by
  refine returnsInHanded_of_change_and (C := Tryz.checked) (X := fun w _ => laidMetH Tryz.prog laid3 w) (fun _ _ _ hh h => h.of_heap hh) own started (by kernel_rfl) Tryz.func3
    (ChangeSpec.witness_shaped (enc := enc) (C := Tryz.checked) (os := os) (X := fun w _ => laidMetH Tryz.prog laid3 w) false (World.doorLaid Tryz.prog 400 os) #[.agg #[.int .i64 0, .int .i64 0, .int .i64 0, .int .i64 0, .int .i64 0, .int .i64 0, .int .i64 0, .int .i64 0, .int .i64 0, .int .i64 0, .int .i64 0, .int .i64 0, .int .i64 0, .int .i64 0, .string ⟨#[]⟩, .int .i64 0, .int .i64 0, .int .i64 0, .int .i64 0, .int .i64 0, .int .i64 0, .int .i64 0, .int .i64 0, .int .i64 0, .int .i64 0, .int .i64 0, .bool false, .int .i64 0]] 40 rfl (World.shaped_of_RefB (by kernel_rfl) (by kernel_rfl)) (by kernel_rfl) (by kernel_rfl) (by kernel_rfl) (door_met os _)) ?_
  intro W base args ds gs before hval hW _ _ hL _
  obtain ⟨p, q, hA, hV, rfl, hz, hnd⟩ := id hW
  have hfl : Tryz.f3.params.toList.map (flat Tryz.prog 20) = [ks].map some := by
    rw [Tryz.params3]
    show [flat Tryz.prog 20 29] = [some ks]
    rw [flat29]
  obtain ⟨rfl, hlen, hfit, -⟩ := trodAll_flat Tryz.f3.params.toList [ks] hfl W 0 _ _ _ ds p hA
  cases gs with
  | cons g gs => exact absurd hV (by simp [DataW.TrodVars, Rows.nodeNoneSpec])
  | nil =>
  have hq : q = [] := by simpa [DataW.TrodVars, Rows.nodeNoneSpec] using hV
  subst hq
  have hlen1 : args.size = 1 := by rw [Tryz.params3] at hlen; simpa using hlen
  obtain ⟨v0, rfl⟩ : ∃ v0, args = #[v0] := ⟨args[0], by
    apply Array.ext
    · simp [hlen1]
    · intro i h1 h2
      have : i = 0 := by simp at h2; omega
      subst this; simp⟩
  have h0 := hfit 0 ks v0 rfl rfl
  have hag : ∃ cs, v0 = .agg cs := by
    have := hval 0 29 v0 (by rw [Tryz.params3]; rfl) rfl
    obtain ⟨fs, hu⟩ : ∃ fs, Tryz.checked.prog.underlying 29 = some (.struct fs) := ⟨_, Tryz.underlying29⟩
    unfold Value.okWide at this
    rw [hu] at this
    obtain ⟨cs, e, -⟩ := this
    exact ⟨cs, e⟩
  obtain ⟨cs, rfl⟩ := hag
  have hcs : fitX ks cs.toList = true := by simpa [Value.cells] using h0
  have hmk := fitX_mk 0 hcs
  obtain ⟨v, hp', hC, hv⟩ := law_ok (niOf 0 cs.toList 0) (niOf 0 cs.toList) (siOf 0 cs.toList) (biOf 0 cs.toList)
  have hvs : argV (.agg cs) = V.agg (.raw (.int .i64 (niOf 0 cs.toList 0)) :: (mkX (niOf 0 cs.toList) (siOf 0 cs.toList) (biOf 0 cs.toList) 1 ks.tail).map .raw) := by
    unfold argV
    have : mkX (niOf 0 cs.toList) (siOf 0 cs.toList) (biOf 0 cs.toList) 0 ks = .int .i64 (niOf 0 cs.toList 0) :: mkX (niOf 0 cs.toList) (siOf 0 cs.toList) (biOf 0 cs.toList) 1 ks.tail := rfl
    rw [this] at hmk
    dsimp only
    rw [hmk]
    simp only [List.map_cons]
    rw [← hmk]
  rw [← hvs] at hC
  refine (law_of_callOK hC hv (gl_ok hL) rfl (fun j v hj => ?_)).mono fun e W' ⟨he, hB⟩ => ?_
  · cases j with
    | zero =>
      simp at hj; subst hj
      refine ⟨.agg cs, rfl, fun C => ?_, fun perm M p => ?_⟩
      · exact (argV_vr (C := C) (fun x hx => fitX_one h0 x hx) (fun xs h => by cases h)).1
      · exact (argV_vr (C := mkC noPhi 0 (fun _ => none) M) (fun x hx => fitX_one h0 x hx) (fun xs h => by cases h)).2 perm M p
    | succ j => simp at hj
  · subst he
    have hd : ∃ d, ds = [d] := by
      rw [Tryz.params3] at hA
      match ds, hA with
      | [d], _ => exact ⟨d, rfl⟩
      | [], h => simp [DataW.TrodAll] at h
      | _ :: _ :: _, h => simp [DataW.TrodAll] at h
    obtain ⟨d, rfl⟩ := hd
    exact ⟨_, rfl, law_post (kss := [ks]) (tb := 4) rfl hfl hW rfl rfl Tryz.underlying4 rfl hB⟩

theorem said : Rows.NodeNoneSaid :=
  OpenClaim.holds_of_wide 3 Tryz.f3 rfl rfl rfl rfl rfl rfl rfl ⟨rfl, rfl, rfl, rfl, rfl⟩ rfl rfl rfl rfl rfl (by kernel_rfl) Tryz.func3 (by kernel_rfl)
    (of_decide_eq_true (by kernel_rfl)) (by unfold Func.isWrapper; first | (rw [if_pos (by decide +kernel)]; kernel_rfl) | (rw [if_neg (by decide +kernel)]; exact ⟨rfl, rfl⟩))
    (fun os started H enc _ => lifted os started H enc)

theorem nodeNone_holds : Rows.NodeNoneCardSaid :=
  Claim7.holds_tied_plain_at .later [] [.data, .data, .data] true (true, "a993d976fb5786c5c72e3af0ceba75f1e957167ab13951781c2871a080fc685b") false
    said (fun _ h => by cases h) (by kernel_rfl) (fun _ h => by cases h) nodeNone_row_tie rfl ⟨rfl, rfl⟩ (by kernel_rfl) rfl
    (fun f fn hf hfn => by
      obtain rfl : f = 3 := Option.some.inj ((show Tryz.prog.funcNamed "hourglass/hourglasslaw27.NodeNone" = some 3 by kernel_rfl).symm.trans hf) |>.symm
      obtain rfl : fn = Tryz.f3 := (Option.some.inj (Tryz.func3.symm.trans hfn)).symm
      exact ⟨by kernel_rfl, fun j t ht => by
        rw [Tryz.params3] at ht
        have hm : t ∈ [29] := by simpa using Array.mem_of_getElem? ht
        have hall : ([29].all fun u => !Tryz.prog.wantsStandIn u) = true := by kernel_rfl
        exact (show Tryz.prog.wantsStandIn t = false by simpa using List.all_eq_true.1 hall t hm)⟩)
    (by kernel_rfl)
#print axioms nodeNone_holds
end Go.Proofs.YtkdmemhinolcnaaGreatDoor
