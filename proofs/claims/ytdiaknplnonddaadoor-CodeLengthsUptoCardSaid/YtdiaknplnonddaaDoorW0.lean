/-
  The data of the walks: printed by wip/gx.py.
-/
import Derived.Test.YtdiaknplnonddaaDoorSl10
import Derived.KernelRfl
import Derived.Test.YtdiaknplnonddaaDoorProg
import Derived.Test.YtdiaknplnonddaaDoorShelf
set_option linter.unusedVariables false
namespace Go.Proofs.Gx
open Go.Sl
theorem follows : Tryd.prog.follows .mixedOrders = true := by kernel_rfl
structure api_Instr where
  Op : Int
  A : Int
  B : Int
  C : Int
deriving Inhabited, DecidableEq
def E_api_Instr : Fl api_Instr := ⟨fun x => [.int .i64 x.Op, .int .i64 x.A, .int .i64 x.B, .int .i64 x.C], 4, fun _ => rfl, fun x v h => by
  simp only [List.mem_cons, List.not_mem_nil, or_false] at h
  rcases h with rfl | rfl | rfl | rfl <;> rfl⟩
def lit_ : ByteArray := ⟨#[]⟩
def lit_3f : ByteArray := ⟨#[63]⟩
def lit_nnn : ByteArray := ⟨#[110, 110, 110]⟩
def lit_halt : ByteArray := ⟨#[104, 97, 108, 116]⟩
def lit_set : ByteArray := ⟨#[115, 101, 116]⟩
def lit_move : ByteArray := ⟨#[109, 111, 118, 101]⟩
def lit_add : ByteArray := ⟨#[97, 100, 100]⟩
def lit_sub : ByteArray := ⟨#[115, 117, 98]⟩
def lit_mul : ByteArray := ⟨#[109, 117, 108]⟩
def lit_div : ByteArray := ⟨#[100, 105, 118]⟩
def lit_mod : ByteArray := ⟨#[109, 111, 100]⟩
def lit_less : ByteArray := ⟨#[108, 101, 115, 115]⟩
def lit_same : ByteArray := ⟨#[115, 97, 109, 101]⟩
def lit_jump : ByteArray := ⟨#[106, 117, 109, 112]⟩
def lit_zero : ByteArray := ⟨#[122, 101, 114, 111]⟩
def lit_send : ByteArray := ⟨#[115, 101, 110, 100]⟩
def lit_draw : ByteArray := ⟨#[100, 114, 97, 119]⟩
def lit_value : ByteArray := ⟨#[118, 97, 108, 117, 101]⟩
def lit_time : ByteArray := ⟨#[116, 105, 109, 101]⟩
def lit_self : ByteArray := ⟨#[115, 101, 108, 102]⟩
def lit_2d2d2d : ByteArray := ⟨#[45, 45, 45]⟩
def lit_726e2d : ByteArray := ⟨#[114, 110, 45]⟩
def lit_72722d : ByteArray := ⟨#[114, 114, 45]⟩
def lit_rrr : ByteArray := ⟨#[114, 114, 114]⟩
def lit_702d2d : ByteArray := ⟨#[112, 45, 45]⟩
def lit_72702d : ByteArray := ⟨#[114, 112, 45]⟩
def lit_722d2d : ByteArray := ⟨#[114, 45, 45]⟩
def lit_20 : ByteArray := ⟨#[32]⟩
def lit_2d : ByteArray := ⟨#[45]⟩
def lit_73657420312035 : ByteArray := ⟨#[115, 101, 116, 32, 49, 32, 53]⟩
theorem run_eql_api_Instr (x y : Operand) (a b : api_Instr) (w : World) : ((eqGuard .eql 23 x y (.agg (E_api_Instr.enc a).toArray) (.agg (E_api_Instr.enc b).toArray)).bind fun _ => binOp .eql 23 (.agg (E_api_Instr.enc a).toArray) (.agg (E_api_Instr.enc b).toArray)).run Tryd.prog w = .ok (.bool (decide (a = b))) w := by
  show ((eqGuard .eql 23 x y _ _) >>= fun _ => binOp .eql 23 _ _).run Tryd.prog w = _
  rw [Sem.run_bind, run_eqGuard_agg (hm := Tryd.eqGuardType23)]
  simp only [Result.andThen_ok]
  obtain ⟨a1, a2, a3, a4⟩ := a
  obtain ⟨b5, b6, b7, b8⟩ := b
  simp [E_api_Instr, go_sem]
  all_goals (repeat' split)
  all_goals first | (simp [*]; done) | grind | (simp only [Result.ok.injEq, Value.bool.injEq, and_true]; grind)
theorem run_neq_api_Instr (x y : Operand) (a b : api_Instr) (w : World) : ((eqGuard .neq 23 x y (.agg (E_api_Instr.enc a).toArray) (.agg (E_api_Instr.enc b).toArray)).bind fun _ => binOp .neq 23 (.agg (E_api_Instr.enc a).toArray) (.agg (E_api_Instr.enc b).toArray)).run Tryd.prog w = .ok (.bool (!decide (a = b))) w := by
  show ((eqGuard .neq 23 x y _ _) >>= fun _ => binOp .neq 23 _ _).run Tryd.prog w = _
  rw [Sem.run_bind, run_eqGuard_agg (hm := Tryd.eqGuardType23)]
  simp only [Result.andThen_ok]
  obtain ⟨a9, a10, a11, a12⟩ := a
  obtain ⟨b13, b14, b15, b16⟩ := b
  simp [E_api_Instr, go_sem]
  all_goals (repeat' split)
  all_goals first | (simp [*]; done) | grind | (simp only [Result.ok.injEq, Value.bool.injEq, and_true]; grind)
end Go.Proofs.Gx
