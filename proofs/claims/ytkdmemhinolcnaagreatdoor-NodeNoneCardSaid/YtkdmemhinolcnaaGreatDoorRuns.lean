/-
  The law of this claim at a nil node, whatever the deed is: run by the kernel, its call of the example left open. No condition.
-/
import Derived.Test.YtkdmemhinolcnaaGreatDoorTab
import Derived.Test.YtkdmemhinolcnaaGreatDoorRows
namespace Go.Proofs.YtkdmemhinolcnaaGreatDoor
open Go Go.Hx Go.ChangeShapes Go.WideShapes Go.RowKit
set_option maxRecDepth 1000000

theorem envm : EnvM Tryz.prog env := envOf_ok (by kernel_rfl)
theorem tabs : TabOK Tryz.prog env fns := tab_ok (by kernel_rfl) (fun f q h => Tr.allP_get fns fns_prog f q h)
theorem foll : Tryz.prog.follows .mixedOrders = true := by kernel_rfl

/-- is it true that comes of it? -/
def okT : Option (V × Heap) → Bool
  | some (.raw (.bool true), _) => true
  | _ => false

noncomputable def callX (f : Nat) (vs : List V) (hp : Heap) : Option (V × Heap) :=
  match Nat.beq f 11, vs, hp with
  | true, [], [] => some (.raw (.bool true), [])
  | _, _, _ => eCall Tryz.prog env fns 50 f vs hp

noncomputable def okB (fn : Func) (r : Option (Ex × St)) : Bool :=
  match r with
  | some (e, S) => (match e with | .exit _ => false | _ => true) && (match resV env fn S with | some v => (match v.bool? with | some b => b | none => false) | none => false)
  | none => false

noncomputable def body3 : Code := match Tryz.f3.body with | some c => c | none => .skip

def ks : List Kd := [.i .i64, .i .i64, .i .i64, .i .i64, .i .i64, .i .i64, .i .i64, .i .i64, .i .i64, .i .i64, .i .i64, .i .i64, .i .i64, .i .i64, .s, .i .i64, .i .i64, .i .i64, .i .i64, .i .i64, .i .i64, .i .i64, .i .i64, .i .i64, .i .i64, .i .i64, .b, .i .i64]
theorem flat29 : flat Tryz.prog 20 29 = some ks := by kernel_rfl

noncomputable def runIt (K : Int) (ni : Nat → Int) (si : Nat → ByteArray) (bi : Nat → Bool) : Bool :=
  okB Tryz.f3 (eCode Tryz.prog env mk3 callX 100000 body3 { tm := [V.agg (.raw (.int .i64 K) :: (mkX ni si bi 1 ks.tail).map .raw)] ++ List.replicate (Tryz.f3.ntmps - 1) .dead, bx := [], hp := [] })

section
variable (ni : Nat → Int) (si : Nat → ByteArray) (bi : Nat → Bool)
theorem run_m (k : Nat) : runIt (.negSucc k) ni si bi = true := by kernel_rfl
theorem run_k (k : Nat) : runIt (.ofNat (k + 11)) ni si bi = true := by kernel_rfl
theorem run_0 : runIt (.ofNat 0) ni si bi = true := by kernel_rfl
theorem run_1 : runIt (.ofNat 1) ni si bi = true := by kernel_rfl
theorem run_2 : runIt (.ofNat 2) ni si bi = true := by kernel_rfl
theorem run_3 : runIt (.ofNat 3) ni si bi = true := by kernel_rfl
theorem run_4 : runIt (.ofNat 4) ni si bi = true := by kernel_rfl
theorem run_5 : runIt (.ofNat 5) ni si bi = true := by kernel_rfl
theorem run_6 : runIt (.ofNat 6) ni si bi = true := by kernel_rfl
theorem run_7 : runIt (.ofNat 7) ni si bi = true := by kernel_rfl
theorem run_8 : runIt (.ofNat 8) ni si bi = true := by kernel_rfl
theorem run_9 : runIt (.ofNat 9) ni si bi = true := by kernel_rfl
theorem run_10 : runIt (.ofNat 10) ni si bi = true := by kernel_rfl
theorem run_all (K : Int) : runIt K ni si bi = true := by
  match K with
  | .negSucc k => exact run_m ni si bi k
  | .ofNat 0 => exact run_0 ni si bi
  | .ofNat 1 => exact run_1 ni si bi
  | .ofNat 2 => exact run_2 ni si bi
  | .ofNat 3 => exact run_3 ni si bi
  | .ofNat 4 => exact run_4 ni si bi
  | .ofNat 5 => exact run_5 ni si bi
  | .ofNat 6 => exact run_6 ni si bi
  | .ofNat 7 => exact run_7 ni si bi
  | .ofNat 8 => exact run_8 ni si bi
  | .ofNat 9 => exact run_9 ni si bi
  | .ofNat 10 => exact run_10 ni si bi
  | .ofNat (k + 11) => exact run_k ni si bi k
end
end Go.Proofs.YtkdmemhinolcnaaGreatDoor
