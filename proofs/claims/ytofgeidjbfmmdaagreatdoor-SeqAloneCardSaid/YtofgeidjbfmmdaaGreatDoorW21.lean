/-
  The walks of functions, each with what it computes: printed by wip/gx.py.
-/
import Derived.Test.YtofgeidjbfmmdaaGreatDoorW0
import Derived.Test.YtofgeidjbfmmdaaGreatDoorW20
import Derived.Test.YtofgeidjbfmmdaaGreatDoorW4
set_option linter.unusedVariables false
set_option maxRecDepth 100000
set_option maxHeartbeats 4000000
namespace Go.Proofs.Gx
open Go.Sl Tryz
variable {B : Base} {w : World} {l : List HProp} {hf : Hp}
/-! ### slices.symMergeCmpFunc[isochron/api.Message]: function 87 -/
noncomputable def slices_symMergeCmpFunc_api_Message.l23b (a3 : List api_Message) (x772 : Int) : List api_Message × Int → Option ((List api_Message × Int) ⊕ (List api_Message))
  | (l813, x814) => (if x814 < IntKind.i64.wrap (x772 - 1) then (if 0 ≤ IntKind.i64.wrap (x814 + 1) ∧ IntKind.i64.wrap (x814 + 1) < (l813.length : Int) then (if 0 ≤ x814 ∧ x814 < (l813.length : Int) then (if IntKind.i64.wrap (x814 + 1) < ((setL l813 x814 (⟨(nth l813 (IntKind.i64.wrap (x814 + 1))).Key, (nth l813 (IntKind.i64.wrap (x814 + 1))).To, (nth l813 (IntKind.i64.wrap (x814 + 1))).Value, (nth l813 (IntKind.i64.wrap (x814 + 1))).Uid, ((nth l813 (IntKind.i64.wrap (x814 + 1))).Anti)⟩ : api_Message)).length : Int) then some (.inl ((setL (setL l813 x814 (⟨(nth l813 (IntKind.i64.wrap (x814 + 1))).Key, (nth l813 (IntKind.i64.wrap (x814 + 1))).To, (nth l813 (IntKind.i64.wrap (x814 + 1))).Value, (nth l813 (IntKind.i64.wrap (x814 + 1))).Uid, ((nth l813 (IntKind.i64.wrap (x814 + 1))).Anti)⟩ : api_Message)) (IntKind.i64.wrap (x814 + 1)) (⟨(nth l813 x814).Key, (nth l813 x814).To, (nth l813 x814).Value, (nth l813 x814).Uid, ((nth l813 x814).Anti)⟩ : api_Message)), IntKind.i64.wrap (x814 + 1))) else none) else none) else none) else (Option.map Sum.inr (if l813.length = a3.length then some l813 else none)))
noncomputable def slices_symMergeCmpFunc_api_Message.l23 (a3 : List api_Message) (x772 : Int) (s : List api_Message × Int) : Option (List api_Message) := loopR (slices_symMergeCmpFunc_api_Message.l23b a3 x772) s
noncomputable def slices_symMergeCmpFunc_api_Message.l22b (a3 : List api_Message) (a4 : Int) : Int × Int → Option ((Int × Int) ⊕ (List api_Message))
  | (x772, x773) => (if x772 < x773 then (if 0 ≤ IntKind.i64.wrap (Int.fdiv (IntKind.u64.wrap (IntKind.i64.wrap (x772 + x773))) (2 ^ (min (1 : Int).toNat IntKind.u64.bits))) ∧ IntKind.i64.wrap (Int.fdiv (IntKind.u64.wrap (IntKind.i64.wrap (x772 + x773))) (2 ^ (min (1 : Int).toNat IntKind.u64.bits))) < (a3.length : Int) then (if 0 ≤ a4 ∧ a4 < (a3.length : Int) then ((event_order.f (⟨(nth a3 (IntKind.i64.wrap (Int.fdiv (IntKind.u64.wrap (IntKind.i64.wrap (x772 + x773))) (2 ^ (min (1 : Int).toNat IntKind.u64.bits))))).Key, (nth a3 (IntKind.i64.wrap (Int.fdiv (IntKind.u64.wrap (IntKind.i64.wrap (x772 + x773))) (2 ^ (min (1 : Int).toNat IntKind.u64.bits))))).To, (nth a3 (IntKind.i64.wrap (Int.fdiv (IntKind.u64.wrap (IntKind.i64.wrap (x772 + x773))) (2 ^ (min (1 : Int).toNat IntKind.u64.bits))))).Value, (nth a3 (IntKind.i64.wrap (Int.fdiv (IntKind.u64.wrap (IntKind.i64.wrap (x772 + x773))) (2 ^ (min (1 : Int).toNat IntKind.u64.bits))))).Uid, ((nth a3 (IntKind.i64.wrap (Int.fdiv (IntKind.u64.wrap (IntKind.i64.wrap (x772 + x773))) (2 ^ (min (1 : Int).toNat IntKind.u64.bits))))).Anti)⟩ : api_Message) (⟨(nth a3 a4).Key, (nth a3 a4).To, (nth a3 a4).Value, (nth a3 a4).Uid, ((nth a3 a4).Anti)⟩ : api_Message)).bind fun t792 => (if t792 < 0 then some (.inl (IntKind.i64.wrap ((IntKind.i64.wrap (Int.fdiv (IntKind.u64.wrap (IntKind.i64.wrap (x772 + x773))) (2 ^ (min (1 : Int).toNat IntKind.u64.bits)))) + 1), x773)) else some (.inl (x772, IntKind.i64.wrap (Int.fdiv (IntKind.u64.wrap (IntKind.i64.wrap (x772 + x773))) (2 ^ (min (1 : Int).toNat IntKind.u64.bits))))))) else none) else none) else (Option.map Sum.inr (slices_symMergeCmpFunc_api_Message.l23 a3 x772 (a3, a4))))
noncomputable def slices_symMergeCmpFunc_api_Message.l22 (a3 : List api_Message) (a4 : Int) (s : Int × Int) : Option (List api_Message) := loopR (slices_symMergeCmpFunc_api_Message.l22b a3 a4) s
noncomputable def slices_symMergeCmpFunc_api_Message.l29b (a3 : List api_Message) (x1021 : Int) : List api_Message × Int → Option ((List api_Message × Int) ⊕ (List api_Message))
  | (l1062, x1063) => (if x1021 < x1063 then (if 0 ≤ IntKind.i64.wrap (x1063 - 1) ∧ IntKind.i64.wrap (x1063 - 1) < (l1062.length : Int) then (if 0 ≤ x1063 ∧ x1063 < (l1062.length : Int) then (if IntKind.i64.wrap (x1063 - 1) < ((setL l1062 x1063 (⟨(nth l1062 (IntKind.i64.wrap (x1063 - 1))).Key, (nth l1062 (IntKind.i64.wrap (x1063 - 1))).To, (nth l1062 (IntKind.i64.wrap (x1063 - 1))).Value, (nth l1062 (IntKind.i64.wrap (x1063 - 1))).Uid, ((nth l1062 (IntKind.i64.wrap (x1063 - 1))).Anti)⟩ : api_Message)).length : Int) then some (.inl ((setL (setL l1062 x1063 (⟨(nth l1062 (IntKind.i64.wrap (x1063 - 1))).Key, (nth l1062 (IntKind.i64.wrap (x1063 - 1))).To, (nth l1062 (IntKind.i64.wrap (x1063 - 1))).Value, (nth l1062 (IntKind.i64.wrap (x1063 - 1))).Uid, ((nth l1062 (IntKind.i64.wrap (x1063 - 1))).Anti)⟩ : api_Message)) (IntKind.i64.wrap (x1063 - 1)) (⟨(nth l1062 x1063).Key, (nth l1062 x1063).To, (nth l1062 x1063).Value, (nth l1062 x1063).Uid, ((nth l1062 x1063).Anti)⟩ : api_Message)), IntKind.i64.wrap (x1063 - 1))) else none) else none) else none) else (Option.map Sum.inr (if l1062.length = a3.length then some l1062 else none)))
noncomputable def slices_symMergeCmpFunc_api_Message.l29 (a3 : List api_Message) (x1021 : Int) (s : List api_Message × Int) : Option (List api_Message) := loopR (slices_symMergeCmpFunc_api_Message.l29b a3 x1021) s
noncomputable def slices_symMergeCmpFunc_api_Message.l28b (a3 : List api_Message) (a5 : Int) : Int × Int → Option ((Int × Int) ⊕ (List api_Message))
  | (x1021, x1022) => (if x1021 < x1022 then (if 0 ≤ a5 ∧ a5 < (a3.length : Int) then (if 0 ≤ IntKind.i64.wrap (Int.fdiv (IntKind.u64.wrap (IntKind.i64.wrap (x1021 + x1022))) (2 ^ (min (1 : Int).toNat IntKind.u64.bits))) ∧ IntKind.i64.wrap (Int.fdiv (IntKind.u64.wrap (IntKind.i64.wrap (x1021 + x1022))) (2 ^ (min (1 : Int).toNat IntKind.u64.bits))) < (a3.length : Int) then ((event_order.f (⟨(nth a3 a5).Key, (nth a3 a5).To, (nth a3 a5).Value, (nth a3 a5).Uid, ((nth a3 a5).Anti)⟩ : api_Message) (⟨(nth a3 (IntKind.i64.wrap (Int.fdiv (IntKind.u64.wrap (IntKind.i64.wrap (x1021 + x1022))) (2 ^ (min (1 : Int).toNat IntKind.u64.bits))))).Key, (nth a3 (IntKind.i64.wrap (Int.fdiv (IntKind.u64.wrap (IntKind.i64.wrap (x1021 + x1022))) (2 ^ (min (1 : Int).toNat IntKind.u64.bits))))).To, (nth a3 (IntKind.i64.wrap (Int.fdiv (IntKind.u64.wrap (IntKind.i64.wrap (x1021 + x1022))) (2 ^ (min (1 : Int).toNat IntKind.u64.bits))))).Value, (nth a3 (IntKind.i64.wrap (Int.fdiv (IntKind.u64.wrap (IntKind.i64.wrap (x1021 + x1022))) (2 ^ (min (1 : Int).toNat IntKind.u64.bits))))).Uid, ((nth a3 (IntKind.i64.wrap (Int.fdiv (IntKind.u64.wrap (IntKind.i64.wrap (x1021 + x1022))) (2 ^ (min (1 : Int).toNat IntKind.u64.bits))))).Anti)⟩ : api_Message)).bind fun t1041 => (if t1041 < 0 then some (.inl (x1021, IntKind.i64.wrap (Int.fdiv (IntKind.u64.wrap (IntKind.i64.wrap (x1021 + x1022))) (2 ^ (min (1 : Int).toNat IntKind.u64.bits))))) else some (.inl (IntKind.i64.wrap ((IntKind.i64.wrap (Int.fdiv (IntKind.u64.wrap (IntKind.i64.wrap (x1021 + x1022))) (2 ^ (min (1 : Int).toNat IntKind.u64.bits)))) + 1), x1022)))) else none) else none) else (Option.map Sum.inr (slices_symMergeCmpFunc_api_Message.l29 a3 x1021 (a3, a5))))
noncomputable def slices_symMergeCmpFunc_api_Message.l28 (a3 : List api_Message) (a5 : Int) (s : Int × Int) : Option (List api_Message) := loopR (slices_symMergeCmpFunc_api_Message.l28b a3 a5) s
noncomputable def slices_symMergeCmpFunc_api_Message.j34 (rec_ : (List api_Message) → Int → Int → Int → Option (List api_Message)) (a3 : List api_Message) (a4 a5 a6 x1148 : Int) (l1182 : List api_Message) : Option (List api_Message) := (if IntKind.i64.wrap (Int.fdiv (IntKind.u64.wrap (IntKind.i64.wrap (a4 + a6))) (2 ^ (min (1 : Int).toNat IntKind.u64.bits))) < IntKind.i64.wrap ((IntKind.i64.wrap ((IntKind.i64.wrap (Int.fdiv (IntKind.u64.wrap (IntKind.i64.wrap (a4 + a6))) (2 ^ (min (1 : Int).toNat IntKind.u64.bits)))) + a5)) - x1148) then (if IntKind.i64.wrap ((IntKind.i64.wrap ((IntKind.i64.wrap (Int.fdiv (IntKind.u64.wrap (IntKind.i64.wrap (a4 + a6))) (2 ^ (min (1 : Int).toNat IntKind.u64.bits)))) + a5)) - x1148) < a6 then ((rec_ l1182 (IntKind.i64.wrap (Int.fdiv (IntKind.u64.wrap (IntKind.i64.wrap (a4 + a6))) (2 ^ (min (1 : Int).toNat IntKind.u64.bits)))) (IntKind.i64.wrap ((IntKind.i64.wrap ((IntKind.i64.wrap (Int.fdiv (IntKind.u64.wrap (IntKind.i64.wrap (a4 + a6))) (2 ^ (min (1 : Int).toNat IntKind.u64.bits)))) + a5)) - x1148)) a6).bind fun t1185 => (if t1185.length = a3.length then some t1185 else none)) else (if l1182.length = a3.length then some l1182 else none)) else (if l1182.length = a3.length then some l1182 else none))
noncomputable def slices_symMergeCmpFunc_api_Message.j33 (rec_ : (List api_Message) → Int → Int → Int → Option (List api_Message)) (a3 : List api_Message) (a4 a5 a6 x1148 : Int) (l1176 : List api_Message) : Option (List api_Message) := (if a4 < x1148 then (if x1148 < IntKind.i64.wrap (Int.fdiv (IntKind.u64.wrap (IntKind.i64.wrap (a4 + a6))) (2 ^ (min (1 : Int).toNat IntKind.u64.bits))) then ((rec_ l1176 a4 x1148 (IntKind.i64.wrap (Int.fdiv (IntKind.u64.wrap (IntKind.i64.wrap (a4 + a6))) (2 ^ (min (1 : Int).toNat IntKind.u64.bits))))).bind fun t1193 => slices_symMergeCmpFunc_api_Message.j34 rec_ a3 a4 a5 a6 x1148 t1193) else slices_symMergeCmpFunc_api_Message.j34 rec_ a3 a4 a5 a6 x1148 l1176) else slices_symMergeCmpFunc_api_Message.j34 rec_ a3 a4 a5 a6 x1148 l1176)
noncomputable def slices_symMergeCmpFunc_api_Message.l32b (rec_ : (List api_Message) → Int → Int → Int → Option (List api_Message)) (a3 : List api_Message) (a4 a5 a6 : Int) : Int × Int → Option ((Int × Int) ⊕ (List api_Message))
  | (x1148, x1149) => (if x1148 < x1149 then (if 0 ≤ IntKind.i64.wrap ((IntKind.i64.wrap ((IntKind.i64.wrap ((IntKind.i64.wrap (Int.fdiv (IntKind.u64.wrap (IntKind.i64.wrap (a4 + a6))) (2 ^ (min (1 : Int).toNat IntKind.u64.bits)))) + a5)) - 1)) - (IntKind.i64.wrap (Int.fdiv (IntKind.u64.wrap (IntKind.i64.wrap (x1148 + x1149))) (2 ^ (min (1 : Int).toNat IntKind.u64.bits))))) ∧ IntKind.i64.wrap ((IntKind.i64.wrap ((IntKind.i64.wrap ((IntKind.i64.wrap (Int.fdiv (IntKind.u64.wrap (IntKind.i64.wrap (a4 + a6))) (2 ^ (min (1 : Int).toNat IntKind.u64.bits)))) + a5)) - 1)) - (IntKind.i64.wrap (Int.fdiv (IntKind.u64.wrap (IntKind.i64.wrap (x1148 + x1149))) (2 ^ (min (1 : Int).toNat IntKind.u64.bits))))) < (a3.length : Int) then (if 0 ≤ IntKind.i64.wrap (Int.fdiv (IntKind.u64.wrap (IntKind.i64.wrap (x1148 + x1149))) (2 ^ (min (1 : Int).toNat IntKind.u64.bits))) ∧ IntKind.i64.wrap (Int.fdiv (IntKind.u64.wrap (IntKind.i64.wrap (x1148 + x1149))) (2 ^ (min (1 : Int).toNat IntKind.u64.bits))) < (a3.length : Int) then ((event_order.f (⟨(nth a3 (IntKind.i64.wrap ((IntKind.i64.wrap ((IntKind.i64.wrap ((IntKind.i64.wrap (Int.fdiv (IntKind.u64.wrap (IntKind.i64.wrap (a4 + a6))) (2 ^ (min (1 : Int).toNat IntKind.u64.bits)))) + a5)) - 1)) - (IntKind.i64.wrap (Int.fdiv (IntKind.u64.wrap (IntKind.i64.wrap (x1148 + x1149))) (2 ^ (min (1 : Int).toNat IntKind.u64.bits))))))).Key, (nth a3 (IntKind.i64.wrap ((IntKind.i64.wrap ((IntKind.i64.wrap ((IntKind.i64.wrap (Int.fdiv (IntKind.u64.wrap (IntKind.i64.wrap (a4 + a6))) (2 ^ (min (1 : Int).toNat IntKind.u64.bits)))) + a5)) - 1)) - (IntKind.i64.wrap (Int.fdiv (IntKind.u64.wrap (IntKind.i64.wrap (x1148 + x1149))) (2 ^ (min (1 : Int).toNat IntKind.u64.bits))))))).To, (nth a3 (IntKind.i64.wrap ((IntKind.i64.wrap ((IntKind.i64.wrap ((IntKind.i64.wrap (Int.fdiv (IntKind.u64.wrap (IntKind.i64.wrap (a4 + a6))) (2 ^ (min (1 : Int).toNat IntKind.u64.bits)))) + a5)) - 1)) - (IntKind.i64.wrap (Int.fdiv (IntKind.u64.wrap (IntKind.i64.wrap (x1148 + x1149))) (2 ^ (min (1 : Int).toNat IntKind.u64.bits))))))).Value, (nth a3 (IntKind.i64.wrap ((IntKind.i64.wrap ((IntKind.i64.wrap ((IntKind.i64.wrap (Int.fdiv (IntKind.u64.wrap (IntKind.i64.wrap (a4 + a6))) (2 ^ (min (1 : Int).toNat IntKind.u64.bits)))) + a5)) - 1)) - (IntKind.i64.wrap (Int.fdiv (IntKind.u64.wrap (IntKind.i64.wrap (x1148 + x1149))) (2 ^ (min (1 : Int).toNat IntKind.u64.bits))))))).Uid, ((nth a3 (IntKind.i64.wrap ((IntKind.i64.wrap ((IntKind.i64.wrap ((IntKind.i64.wrap (Int.fdiv (IntKind.u64.wrap (IntKind.i64.wrap (a4 + a6))) (2 ^ (min (1 : Int).toNat IntKind.u64.bits)))) + a5)) - 1)) - (IntKind.i64.wrap (Int.fdiv (IntKind.u64.wrap (IntKind.i64.wrap (x1148 + x1149))) (2 ^ (min (1 : Int).toNat IntKind.u64.bits))))))).Anti)⟩ : api_Message) (⟨(nth a3 (IntKind.i64.wrap (Int.fdiv (IntKind.u64.wrap (IntKind.i64.wrap (x1148 + x1149))) (2 ^ (min (1 : Int).toNat IntKind.u64.bits))))).Key, (nth a3 (IntKind.i64.wrap (Int.fdiv (IntKind.u64.wrap (IntKind.i64.wrap (x1148 + x1149))) (2 ^ (min (1 : Int).toNat IntKind.u64.bits))))).To, (nth a3 (IntKind.i64.wrap (Int.fdiv (IntKind.u64.wrap (IntKind.i64.wrap (x1148 + x1149))) (2 ^ (min (1 : Int).toNat IntKind.u64.bits))))).Value, (nth a3 (IntKind.i64.wrap (Int.fdiv (IntKind.u64.wrap (IntKind.i64.wrap (x1148 + x1149))) (2 ^ (min (1 : Int).toNat IntKind.u64.bits))))).Uid, ((nth a3 (IntKind.i64.wrap (Int.fdiv (IntKind.u64.wrap (IntKind.i64.wrap (x1148 + x1149))) (2 ^ (min (1 : Int).toNat IntKind.u64.bits))))).Anti)⟩ : api_Message)).bind fun t1168 => (if t1168 < 0 then some (.inl (x1148, IntKind.i64.wrap (Int.fdiv (IntKind.u64.wrap (IntKind.i64.wrap (x1148 + x1149))) (2 ^ (min (1 : Int).toNat IntKind.u64.bits))))) else some (.inl (IntKind.i64.wrap ((IntKind.i64.wrap (Int.fdiv (IntKind.u64.wrap (IntKind.i64.wrap (x1148 + x1149))) (2 ^ (min (1 : Int).toNat IntKind.u64.bits)))) + 1), x1149)))) else none) else none) else (Option.map Sum.inr (if x1148 < a5 then (if a5 < IntKind.i64.wrap ((IntKind.i64.wrap ((IntKind.i64.wrap (Int.fdiv (IntKind.u64.wrap (IntKind.i64.wrap (a4 + a6))) (2 ^ (min (1 : Int).toNat IntKind.u64.bits)))) + a5)) - x1148) then ((slices_rotateCmpFunc_api_Message.f a3 x1148 a5 (IntKind.i64.wrap ((IntKind.i64.wrap ((IntKind.i64.wrap (Int.fdiv (IntKind.u64.wrap (IntKind.i64.wrap (a4 + a6))) (2 ^ (min (1 : Int).toNat IntKind.u64.bits)))) + a5)) - x1148))).bind fun t1198 => slices_symMergeCmpFunc_api_Message.j33 rec_ a3 a4 a5 a6 x1148 t1198) else slices_symMergeCmpFunc_api_Message.j33 rec_ a3 a4 a5 a6 x1148 a3) else slices_symMergeCmpFunc_api_Message.j33 rec_ a3 a4 a5 a6 x1148 a3)))
noncomputable def slices_symMergeCmpFunc_api_Message.l32 (rec_ : (List api_Message) → Int → Int → Int → Option (List api_Message)) (a3 : List api_Message) (a4 a5 a6 : Int) (s : Int × Int) : Option (List api_Message) := loopR (slices_symMergeCmpFunc_api_Message.l32b rec_ a3 a4 a5 a6) s
noncomputable def slices_symMergeCmpFunc_api_Message.j30 (rec_ : (List api_Message) → Int → Int → Int → Option (List api_Message)) (a3 : List api_Message) (a4 a5 a6 x1101 x1102 : Int) : Option (List api_Message) := slices_symMergeCmpFunc_api_Message.l32 rec_ a3 a4 a5 a6 (x1101, x1102)
noncomputable def slices_symMergeCmpFunc_api_Message.f0 (rec_ : (List api_Message) → Int → Int → Int → Option (List api_Message)) (a3 : List api_Message) (a4 a5 a6 : Int) : Option (List api_Message) := (if IntKind.i64.wrap (a5 - a4) = 1 then slices_symMergeCmpFunc_api_Message.l22 a3 a4 (a5, a6) else (if IntKind.i64.wrap (a6 - a5) = 1 then slices_symMergeCmpFunc_api_Message.l28 a3 a5 (a4, a5) else (if IntKind.i64.wrap (Int.fdiv (IntKind.u64.wrap (IntKind.i64.wrap (a4 + a6))) (2 ^ (min (1 : Int).toNat IntKind.u64.bits))) < a5 then slices_symMergeCmpFunc_api_Message.j30 rec_ a3 a4 a5 a6 (IntKind.i64.wrap ((IntKind.i64.wrap ((IntKind.i64.wrap (Int.fdiv (IntKind.u64.wrap (IntKind.i64.wrap (a4 + a6))) (2 ^ (min (1 : Int).toNat IntKind.u64.bits)))) + a5)) - a6)) (IntKind.i64.wrap (Int.fdiv (IntKind.u64.wrap (IntKind.i64.wrap (a4 + a6))) (2 ^ (min (1 : Int).toNat IntKind.u64.bits)))) else slices_symMergeCmpFunc_api_Message.j30 rec_ a3 a4 a5 a6 a4 a5)))
theorem slices_symMergeCmpFunc_api_Message.ok0 {rec_ : (List api_Message) → Int → Int → Int → Option (List api_Message)} (ih_ : ∀ {a3 : List api_Message} {a4 a5 a6 : Int} {A1 : Option Addr} {c2 : Nat} {r : List api_Message} {B : Base} {w : World} {l : List HProp} {hf : Hp}, rec_ a3 a4 a5 a6 = some r → St B w (OSf E_api_Message 53 (.slice A1 a3.length c2) a3 :: l) hf → Calls prog 87 #[.slice A1 a3.length c2, .int .i64 a4, .int .i64 a5, .int .i64 a6, .func (.func 32) #[] #[]] w (Ret fun v w => v = .tuple #[] ∧ St B w (OSf E_api_Message 53 (.slice A1 a3.length c2) r :: l) hf)) {a3 : List api_Message} {a4 a5 a6 : Int} {A1 : Option Addr} {c2 : Nat} {r : List api_Message} (h : slices_symMergeCmpFunc_api_Message.f0 rec_ a3 a4 a5 a6 = some r) (hS : St B w (OSf E_api_Message 53 (.slice A1 a3.length c2) a3 :: l) hf) :
    Calls prog 87 #[.slice A1 a3.length c2, .int .i64 a4, .int .i64 a5, .int .i64 a6, .func (.func 32) #[] #[]] w (Ret fun v w => v = .tuple #[] ∧ St B w (OSf E_api_Message 53 (.slice A1 a3.length c2) r :: l) hf) := by
  have h := Holds.of h
  refine en func87 rfl ntmps87 rfl (RC.seq (sr (pn 4 rfl (ln ?_))))
  refine RC.iteP 28 rfl h (fun hc726 h => ?_) fun hc726 h => ?_
  next =>
   refine RC.condT rfl (sr (pn 2 rfl (lnsr (pn 2 rfl (ln (RC.seq (RC.block ?_)))))))
   refine fun a ha => RC.loop (N := 220) (body := (slices_symMergeCmpFunc_api_Message.l22b a3 a4)) (φ := (· = r)) (fun (s : Int × Int) a w => ∃ (x772 : Int) (x773 : Int), s = (x772, x773) ∧ Has 220 [(0, .slice A1 a3.length c2), (1, .int .i64 a4), (4, .func (.func 32) #[] #[]), (10, .int .i64 x772), (11, .int .i64 x773)] a ∧ St B w (OSf E_api_Message 53 (.slice A1 a3.length c2) a3 :: l) hf) ?_ (s0 := (a5, a6)) h ⟨a5, a6, rfl, ha.to ⟨rfl, rfl, rfl, rfl, rfl, trivial⟩, hS⟩
   rintro G785 _ a w ⟨x772, x773, rfl, ha, hS⟩ h
   revert a
   show RC _ _ _ _ _ _
   refine RC.seq (sr (pn 3 rfl (ln ?_)))
   refine RC.iteP 33 rfl h (fun hc787 h => ?_) fun hc787 h => ?_
   next =>
    refine RC.condT rfl (sk (RC.block (sr (pn 3 rfl (RL.s (Vl.conv underlying3 underlying203 rfl) rfl (RL.s (Vl.shr rfl rfl (by decide)) rfl (RL.s (Vl.conv underlying203 underlying3 rfl) rfl (pn 1 rfl (ln (RC.seq (RC.planS (plD [0, 3, 6, 10, 13, 15, 20, 23, 26, 29, 32]) [9, 10] hS (fun w hS => hS) follows rfl (by kernel_rfl) (NoTmp.then (NoTmp.block (NoTmp.then (NoTmp.block (NoTmp.then (NoTmp.then NoTmp.body)))))) fun w hS => pp 3 rfl ?_)))))))))))
    obtain ⟨⟨hq788, hq789⟩, h⟩ := h.req
    refine RP.s 0 3 rfl rfl hS (fun w hS => Vl.indexOwn 0 hS rfl underlying49 sizeOf53 rfl rfl hq788 hq789) rfl (RP.s 0 4 rfl rfl hS (fun w hS => Vl.loadA isAgg53 sizeOf53 rfl rfl ((hS.slW 0 rfl).2.2.cells hq788 hq789)) rfl (pp 1 rfl (RP.v1 6 rfl (Vl.move rfl) rfl rfl ?_)))
    obtain ⟨⟨hq790, hq791⟩, h⟩ := h.req
    refine RP.v1 7 rfl (Vl.indexOwn 0 hS rfl underlying49 sizeOf53 rfl rfl hq790 hq791) rfl rfl (RP.v1 8 rfl (Vl.loadA isAgg53 sizeOf53 rfl rfl ((hS.slW 0 rfl).2.2.cells hq790 hq791)) rfl rfl ?_)
    obtain ⟨t792, hg793, h⟩ := h.bind
    have hc := event_order.ok hg793 hS
    refine RP.e 9 rfl (OW.call (ls := [.tmp 44, .tmp 48]) rfl rfl call32 rfl hc) rfl rfl ?_
    rintro _ w ⟨rfl, hS⟩
    refine ⟨kp ⟨(by intro hx; cases hx), trivial⟩, ?_⟩
    refine RP.v1 10 rfl (Vl.int rfl rfl rfl) rfl rfl (RP.nil (RQ.then_n ?_))
    refine RC.iteP 50 rfl h (fun hc794 h => ?_) fun hc794 h => ?_
    next =>
     refine RC.condT rfl (RC.region (pn 3 rfl (RL.nil (RQ.inB_n ?_))))
     exact fun a ha => ⟨(IntKind.i64.wrap ((IntKind.i64.wrap (Int.fdiv (IntKind.u64.wrap (IntKind.i64.wrap (x772 + x773))) (2 ^ (min (1 : Int).toNat IntKind.u64.bits)))) + 1), x773), ⟨(IntKind.i64.wrap ((IntKind.i64.wrap (Int.fdiv (IntKind.u64.wrap (IntKind.i64.wrap (x772 + x773))) (2 ^ (min (1 : Int).toNat IntKind.u64.bits)))) + 1)), x773, rfl, ha.to ⟨rfl, rfl, rfl, rfl, rfl, trivial⟩, hS⟩, h.some⟩
    next =>
     refine RC.condF rfl (RC.region (pn 2 rfl (RL.nil (RQ.inB_n ?_))))
     exact fun a ha => ⟨(x772, IntKind.i64.wrap (Int.fdiv (IntKind.u64.wrap (IntKind.i64.wrap (x772 + x773))) (2 ^ (min (1 : Int).toNat IntKind.u64.bits)))), ⟨x772, (IntKind.i64.wrap (Int.fdiv (IntKind.u64.wrap (IntKind.i64.wrap (x772 + x773))) (2 ^ (min (1 : Int).toNat IntKind.u64.bits)))), rfl, ha.to ⟨rfl, rfl, rfl, rfl, rfl, trivial⟩, hS⟩, h.some⟩
   next =>
    refine RC.condF rfl (RC.exit (RQ.exitT ?_))
    have h := h.inr
    refine RQ.exitT (RQ.inB_hit (RQ.then_n (RC.seq (sr (pn 2 rfl (ln (RC.block ?_)))))))
    refine fun a ha => RC.loop (N := 220) (body := (slices_symMergeCmpFunc_api_Message.l23b a3 x772)) (φ := (· = r)) (fun (s : List api_Message × Int) a w => ∃ (l813 : List api_Message) (x814 : Int), s = (l813, x814) ∧ Has 220 [(0, .slice A1 l813.length c2), (10, .int .i64 x772), (13, .int .i64 x814)] a ∧ St B w (OSf E_api_Message 53 (.slice A1 l813.length c2) l813 :: l) hf) ?_ (s0 := (a3, a4)) h ⟨a3, a4, rfl, ha.to ⟨rfl, rfl, rfl, trivial⟩, hS⟩
    rintro G833 _ a w ⟨l813, x814, rfl, ha, hS⟩ h
    revert a
    show RC _ _ _ _ _ _
    refine RC.seq (sr (pn 4 rfl (ln ?_)))
    refine RC.iteP 58 rfl h (fun hc835 h => ?_) fun hc835 h => ?_
    next =>
     refine RC.condT rfl (sk (RC.seq (RC.block (RC.planS (plD [0, 3, 6, 9, 12, 15, 18, 21, 25, 28, 30, 35, 38, 41, 44, 47, 50, 53]) [14, 15, 16, 17] hS (fun w hS => hS) follows rfl (by kernel_rfl) (NoTmp.block (NoTmp.then (NoTmp.then (NoTmp.block (NoTmp.then (NoTmp.then NoTmp.body)))))) fun w hS => pp 8 rfl ?_))))
     obtain ⟨⟨hq843, hq844⟩, h⟩ := h.req
     refine RP.s 0 8 rfl rfl hS (fun w hS => Vl.indexOwn 0 hS rfl underlying49 sizeOf53 rfl rfl hq843 hq844) rfl (RP.s 0 9 rfl rfl hS (fun w hS => Vl.loadA isAgg53 sizeOf53 rfl rfl ((hS.slW 0 rfl).2.2.cells hq843 hq844)) rfl (pp 1 rfl (RP.v1 11 rfl (Vl.move rfl) rfl rfl ?_)))
     obtain ⟨⟨hq845, hq846⟩, h⟩ := h.req
     refine RP.v1 12 rfl (Vl.indexOwn 0 hS rfl underlying49 sizeOf53 rfl rfl hq845 hq846) rfl rfl (RP.v1 13 rfl (Vl.loadA isAgg53 sizeOf53 rfl rfl ((hS.slW 0 rfl).2.2.cells hq845 hq846)) rfl rfl (RP.v1 14 rfl (Vl.indexOwn 0 hS rfl underlying49 sizeOf53 rfl rfl hq845 hq846) rfl rfl (RP.e0 15 rfl (OW.storeOwn (E := E_api_Message) (off := 0) (j := x814) (x' := (⟨(nth l813 (IntKind.i64.wrap (x814 + 1))).Key, (nth l813 (IntKind.i64.wrap (x814 + 1))).To, (nth l813 (IntKind.i64.wrap (x814 + 1))).Value, (nth l813 (IntKind.i64.wrap (x814 + 1))).Uid, ((nth l813 (IntKind.i64.wrap (x814 + 1))).Anti)⟩ : api_Message)) (vs := [.int .i64 (((nth l813 (IntKind.i64.wrap (x814 + 1))).Key).Time), .int .i64 (((nth l813 (IntKind.i64.wrap (x814 + 1))).Key).From), .int .i64 (((nth l813 (IntKind.i64.wrap (x814 + 1))).Key).Seq), .int .i64 ((nth l813 (IntKind.i64.wrap (x814 + 1))).To), .int .i64 ((nth l813 (IntKind.i64.wrap (x814 + 1))).Value), .int .i64 ((nth l813 (IntKind.i64.wrap (x814 + 1))).Uid), .bool ((nth l813 (IntKind.i64.wrap (x814 + 1))).Anti)]) 0 hS rfl rfl rfl rfl sizeOf53 rfl (Nat.succ_pos _) hq845 hq846 (Nat.le_of_ble_eq_true rfl) rfl rfl) rfl ?_)))
     rintro _ w ⟨rfl, hS⟩
     have he847 := (hS.osN 0 rfl).1
     have hS : St B w (_ :: l) hf := (congrArg (fun k_ : Nat => St B w (OSf E_api_Message 53 (.slice A1 k_ c2) (setL l813 x814 (⟨(nth l813 (IntKind.i64.wrap (x814 + 1))).Key, (nth l813 (IntKind.i64.wrap (x814 + 1))).To, (nth l813 (IntKind.i64.wrap (x814 + 1))).Value, (nth l813 (IntKind.i64.wrap (x814 + 1))).Uid, ((nth l813 (IntKind.i64.wrap (x814 + 1))).Anti)⟩ : api_Message)) :: l) hf) he847).mp hS
     refine ⟨kp ⟨(by intro hx; cases hx), trivial⟩, ?_⟩
     refine RP.re 0 rfl (congrArg (fun k_ : Nat => (.slice A1 k_ c2 : Value)) he847) (RP.re 61 rfl (congrArg (fun k_ : Nat => (.slice A1 k_ c2 : Value)) he847) (RP.re 63 rfl (congrArg (fun k_ : Nat => (.slice A1 k_ c2 : Value)) he847) (RP.re 66 rfl (congrArg (fun k_ : Nat => (.slice A1 k_ c2 : Value)) he847) (RP.re 71 rfl (congrArg (fun k_ : Nat => (.slice A1 k_ c2 : Value)) he847) ?_))))
     obtain ⟨hq848, h⟩ := h.req
     refine RP.v1 16 rfl (Vl.indexOwn 0 hS rfl underlying49 sizeOf53 rfl rfl hq843 hq848) rfl rfl (RP.e0 17 rfl (OW.storeOwn (E := E_api_Message) (off := 0) (j := IntKind.i64.wrap (x814 + 1)) (x' := (⟨(nth l813 x814).Key, (nth l813 x814).To, (nth l813 x814).Value, (nth l813 x814).Uid, ((nth l813 x814).Anti)⟩ : api_Message)) (vs := [.int .i64 (((nth l813 x814).Key).Time), .int .i64 (((nth l813 x814).Key).From), .int .i64 (((nth l813 x814).Key).Seq), .int .i64 ((nth l813 x814).To), .int .i64 ((nth l813 x814).Value), .int .i64 ((nth l813 x814).Uid), .bool ((nth l813 x814).Anti)]) 0 hS rfl rfl rfl rfl sizeOf53 rfl (Nat.succ_pos _) hq843 hq848 (Nat.le_of_ble_eq_true rfl) rfl rfl) rfl ?_)
     rintro _ w ⟨rfl, hS⟩
     have he849 := (hS.osN 0 rfl).1
     have hS : St B w (_ :: l) hf := (congrArg (fun k_ : Nat => St B w (OSf E_api_Message 53 (.slice A1 k_ c2) (setL (setL l813 x814 (⟨(nth l813 (IntKind.i64.wrap (x814 + 1))).Key, (nth l813 (IntKind.i64.wrap (x814 + 1))).To, (nth l813 (IntKind.i64.wrap (x814 + 1))).Value, (nth l813 (IntKind.i64.wrap (x814 + 1))).Uid, ((nth l813 (IntKind.i64.wrap (x814 + 1))).Anti)⟩ : api_Message)) (IntKind.i64.wrap (x814 + 1)) (⟨(nth l813 x814).Key, (nth l813 x814).To, (nth l813 x814).Value, (nth l813 x814).Uid, ((nth l813 x814).Anti)⟩ : api_Message)) :: l) hf) he849).mp hS
     refine ⟨kp ⟨(by intro hx; cases hx), trivial⟩, ?_⟩
     refine RP.re 0 rfl (congrArg (fun k_ : Nat => (.slice A1 k_ c2 : Value)) he849) (RP.re 61 rfl (congrArg (fun k_ : Nat => (.slice A1 k_ c2 : Value)) he849) (RP.re 63 rfl (congrArg (fun k_ : Nat => (.slice A1 k_ c2 : Value)) he849) (RP.re 66 rfl (congrArg (fun k_ : Nat => (.slice A1 k_ c2 : Value)) he849) (RP.re 71 rfl (congrArg (fun k_ : Nat => (.slice A1 k_ c2 : Value)) he849) (RP.nil (RQ.inB_n (RQ.then_n (RC.region (pn 3 rfl (RL.nil ?_))))))))))
     exact fun a ha => ⟨((setL (setL l813 x814 (⟨(nth l813 (IntKind.i64.wrap (x814 + 1))).Key, (nth l813 (IntKind.i64.wrap (x814 + 1))).To, (nth l813 (IntKind.i64.wrap (x814 + 1))).Value, (nth l813 (IntKind.i64.wrap (x814 + 1))).Uid, ((nth l813 (IntKind.i64.wrap (x814 + 1))).Anti)⟩ : api_Message)) (IntKind.i64.wrap (x814 + 1)) (⟨(nth l813 x814).Key, (nth l813 x814).To, (nth l813 x814).Value, (nth l813 x814).Uid, ((nth l813 x814).Anti)⟩ : api_Message)), IntKind.i64.wrap (x814 + 1)), ⟨(setL (setL l813 x814 (⟨(nth l813 (IntKind.i64.wrap (x814 + 1))).Key, (nth l813 (IntKind.i64.wrap (x814 + 1))).To, (nth l813 (IntKind.i64.wrap (x814 + 1))).Value, (nth l813 (IntKind.i64.wrap (x814 + 1))).Uid, ((nth l813 (IntKind.i64.wrap (x814 + 1))).Anti)⟩ : api_Message)) (IntKind.i64.wrap (x814 + 1)) (⟨(nth l813 x814).Key, (nth l813 x814).To, (nth l813 x814).Value, (nth l813 x814).Uid, ((nth l813 x814).Anti)⟩ : api_Message)), (IntKind.i64.wrap (x814 + 1)), rfl, ha.to ⟨rfl, rfl, rfl, trivial⟩, hS⟩, h.some⟩
    next =>
     refine RC.condF rfl (RC.exit (RQ.exitT ?_))
     have h := h.inr
     refine RQ.exitT (RQ.inB_hit (tr (RQ.ret ?_)))
     obtain ⟨hq850, h⟩ := h.req
     have hS : St B w (_ :: l) hf := (congrArg (fun k_ : Nat => St B w (OSf E_api_Message 53 (.slice A1 k_ c2) l813 :: l) hf) hq850).mp hS
     obtain rfl := h.some
     exact rt results87 rfl ⟨rfl, hS⟩
  next =>
   refine RC.condF rfl (sk (RC.seq (sr (pn 4 rfl (ln ?_)))))
   refine RC.iteP 80 rfl h (fun hc975 h => ?_) fun hc975 h => ?_
   next =>
    refine RC.condT rfl (sr (pn 2 rfl (lnsr (pn 2 rfl (ln (RC.seq (RC.block ?_)))))))
    refine fun a ha => RC.loop (N := 220) (body := (slices_symMergeCmpFunc_api_Message.l28b a3 a5)) (φ := (· = r)) (fun (s : Int × Int) a w => ∃ (x1021 : Int) (x1022 : Int), s = (x1021, x1022) ∧ Has 220 [(0, .slice A1 a3.length c2), (2, .int .i64 a5), (4, .func (.func 32) #[] #[]), (14, .int .i64 x1021), (15, .int .i64 x1022)] a ∧ St B w (OSf E_api_Message 53 (.slice A1 a3.length c2) a3 :: l) hf) ?_ (s0 := (a4, a5)) h ⟨a4, a5, rfl, ha.to ⟨rfl, rfl, rfl, rfl, rfl, trivial⟩, hS⟩
    rintro G1034 _ a w ⟨x1021, x1022, rfl, ha, hS⟩ h
    revert a
    show RC _ _ _ _ _ _
    refine RC.seq (sr (pn 3 rfl (ln ?_)))
    refine RC.iteP 85 rfl h (fun hc1036 h => ?_) fun hc1036 h => ?_
    next =>
     refine RC.condT rfl (sk (RC.block (sr (pn 3 rfl (RL.s (Vl.conv underlying3 underlying203 rfl) rfl (RL.s (Vl.shr rfl rfl (by decide)) rfl (RL.s (Vl.conv underlying203 underlying3 rfl) rfl (pn 1 rfl (ln (RC.seq (RC.planS (plD [0, 3, 6, 10, 13, 15, 20, 23, 26, 29, 32, 35]) [9, 10, 11] hS (fun w hS => hS) follows rfl (by kernel_rfl) (NoTmp.then (NoTmp.block (NoTmp.then (NoTmp.block (NoTmp.then (NoTmp.then NoTmp.body)))))) fun w hS => pp 3 rfl ?_)))))))))))
     obtain ⟨⟨hq1037, hq1038⟩, h⟩ := h.req
     refine RP.s 0 3 rfl rfl hS (fun w hS => Vl.indexOwn 0 hS rfl underlying49 sizeOf53 rfl rfl hq1037 hq1038) rfl (RP.s 0 4 rfl rfl hS (fun w hS => Vl.loadA isAgg53 sizeOf53 rfl rfl ((hS.slW 0 rfl).2.2.cells hq1037 hq1038)) rfl (pp 1 rfl (RP.v1 6 rfl (Vl.move rfl) rfl rfl ?_)))
     obtain ⟨⟨hq1039, hq1040⟩, h⟩ := h.req
     refine RP.v1 7 rfl (Vl.indexOwn 0 hS rfl underlying49 sizeOf53 rfl rfl hq1039 hq1040) rfl rfl (RP.v1 8 rfl (Vl.loadA isAgg53 sizeOf53 rfl rfl ((hS.slW 0 rfl).2.2.cells hq1039 hq1040)) rfl rfl ?_)
     obtain ⟨t1041, hg1042, h⟩ := h.bind
     have hc := event_order.ok hg1042 hS
     refine RP.e 9 rfl (OW.call (ls := [.tmp 96, .tmp 100]) rfl rfl call32 rfl hc) rfl rfl ?_
     rintro _ w ⟨rfl, hS⟩
     refine ⟨kp ⟨(by intro hx; cases hx), trivial⟩, ?_⟩
     refine RP.v1 10 rfl (Vl.int rfl rfl rfl) rfl rfl (RP.v1 11 rfl (Vl.not rfl) rfl rfl (RP.nil (RQ.then_n ?_)))
     refine RC.iteN 103 rfl h (fun hc1043 h => ?_) fun hc1043 h => ?_
     next =>
      refine RC.condF rfl (RC.region (pn 2 rfl (RL.nil (RQ.inB_n ?_))))
      exact fun a ha => ⟨(x1021, IntKind.i64.wrap (Int.fdiv (IntKind.u64.wrap (IntKind.i64.wrap (x1021 + x1022))) (2 ^ (min (1 : Int).toNat IntKind.u64.bits)))), ⟨x1021, (IntKind.i64.wrap (Int.fdiv (IntKind.u64.wrap (IntKind.i64.wrap (x1021 + x1022))) (2 ^ (min (1 : Int).toNat IntKind.u64.bits)))), rfl, ha.to ⟨rfl, rfl, rfl, rfl, rfl, trivial⟩, hS⟩, h.some⟩
     next =>
      refine RC.condT rfl (RC.region (pn 3 rfl (RL.nil (RQ.inB_n ?_))))
      exact fun a ha => ⟨(IntKind.i64.wrap ((IntKind.i64.wrap (Int.fdiv (IntKind.u64.wrap (IntKind.i64.wrap (x1021 + x1022))) (2 ^ (min (1 : Int).toNat IntKind.u64.bits)))) + 1), x1022), ⟨(IntKind.i64.wrap ((IntKind.i64.wrap (Int.fdiv (IntKind.u64.wrap (IntKind.i64.wrap (x1021 + x1022))) (2 ^ (min (1 : Int).toNat IntKind.u64.bits)))) + 1)), x1022, rfl, ha.to ⟨rfl, rfl, rfl, rfl, rfl, trivial⟩, hS⟩, h.some⟩
    next =>
     refine RC.condF rfl (RC.exit (RQ.exitT ?_))
     have h := h.inr
     refine RQ.exitT (RQ.inB_hit (RQ.then_n (RC.seq (sr (pn 2 rfl (ln (RC.block ?_)))))))
     refine fun a ha => RC.loop (N := 220) (body := (slices_symMergeCmpFunc_api_Message.l29b a3 x1021)) (φ := (· = r)) (fun (s : List api_Message × Int) a w => ∃ (l1062 : List api_Message) (x1063 : Int), s = (l1062, x1063) ∧ Has 220 [(0, .slice A1 l1062.length c2), (14, .int .i64 x1021), (17, .int .i64 x1063)] a ∧ St B w (OSf E_api_Message 53 (.slice A1 l1062.length c2) l1062 :: l) hf) ?_ (s0 := (a3, a5)) h ⟨a3, a5, rfl, ha.to ⟨rfl, rfl, rfl, trivial⟩, hS⟩
     rintro G1082 _ a w ⟨l1062, x1063, rfl, ha, hS⟩ h
     revert a
     show RC _ _ _ _ _ _
     refine RC.seq (sr (pn 3 rfl (ln ?_)))
     refine RC.iteP 110 rfl h (fun hc1084 h => ?_) fun hc1084 h => ?_
     next =>
      refine RC.condT rfl (sk (RC.seq (RC.block (RC.planS (plD [0, 3, 6, 9, 12, 15, 18, 21, 25, 28, 30, 35, 38, 41, 44, 47, 50, 53]) [14, 15, 16, 17] hS (fun w hS => hS) follows rfl (by kernel_rfl) (NoTmp.block (NoTmp.then (NoTmp.then (NoTmp.block (NoTmp.then (NoTmp.then NoTmp.body)))))) fun w hS => pp 8 rfl ?_))))
      obtain ⟨⟨hq1092, hq1093⟩, h⟩ := h.req
      refine RP.s 0 8 rfl rfl hS (fun w hS => Vl.indexOwn 0 hS rfl underlying49 sizeOf53 rfl rfl hq1092 hq1093) rfl (RP.s 0 9 rfl rfl hS (fun w hS => Vl.loadA isAgg53 sizeOf53 rfl rfl ((hS.slW 0 rfl).2.2.cells hq1092 hq1093)) rfl (pp 1 rfl (RP.v1 11 rfl (Vl.move rfl) rfl rfl ?_)))
      obtain ⟨⟨hq1094, hq1095⟩, h⟩ := h.req
      refine RP.v1 12 rfl (Vl.indexOwn 0 hS rfl underlying49 sizeOf53 rfl rfl hq1094 hq1095) rfl rfl (RP.v1 13 rfl (Vl.loadA isAgg53 sizeOf53 rfl rfl ((hS.slW 0 rfl).2.2.cells hq1094 hq1095)) rfl rfl (RP.v1 14 rfl (Vl.indexOwn 0 hS rfl underlying49 sizeOf53 rfl rfl hq1094 hq1095) rfl rfl (RP.e0 15 rfl (OW.storeOwn (E := E_api_Message) (off := 0) (j := x1063) (x' := (⟨(nth l1062 (IntKind.i64.wrap (x1063 - 1))).Key, (nth l1062 (IntKind.i64.wrap (x1063 - 1))).To, (nth l1062 (IntKind.i64.wrap (x1063 - 1))).Value, (nth l1062 (IntKind.i64.wrap (x1063 - 1))).Uid, ((nth l1062 (IntKind.i64.wrap (x1063 - 1))).Anti)⟩ : api_Message)) (vs := [.int .i64 (((nth l1062 (IntKind.i64.wrap (x1063 - 1))).Key).Time), .int .i64 (((nth l1062 (IntKind.i64.wrap (x1063 - 1))).Key).From), .int .i64 (((nth l1062 (IntKind.i64.wrap (x1063 - 1))).Key).Seq), .int .i64 ((nth l1062 (IntKind.i64.wrap (x1063 - 1))).To), .int .i64 ((nth l1062 (IntKind.i64.wrap (x1063 - 1))).Value), .int .i64 ((nth l1062 (IntKind.i64.wrap (x1063 - 1))).Uid), .bool ((nth l1062 (IntKind.i64.wrap (x1063 - 1))).Anti)]) 0 hS rfl rfl rfl rfl sizeOf53 rfl (Nat.succ_pos _) hq1094 hq1095 (Nat.le_of_ble_eq_true rfl) rfl rfl) rfl ?_)))
      rintro _ w ⟨rfl, hS⟩
      have he1096 := (hS.osN 0 rfl).1
      have hS : St B w (_ :: l) hf := (congrArg (fun k_ : Nat => St B w (OSf E_api_Message 53 (.slice A1 k_ c2) (setL l1062 x1063 (⟨(nth l1062 (IntKind.i64.wrap (x1063 - 1))).Key, (nth l1062 (IntKind.i64.wrap (x1063 - 1))).To, (nth l1062 (IntKind.i64.wrap (x1063 - 1))).Value, (nth l1062 (IntKind.i64.wrap (x1063 - 1))).Uid, ((nth l1062 (IntKind.i64.wrap (x1063 - 1))).Anti)⟩ : api_Message)) :: l) hf) he1096).mp hS
      refine ⟨kp ⟨(by intro hx; cases hx), trivial⟩, ?_⟩
      refine RP.re 0 rfl (congrArg (fun k_ : Nat => (.slice A1 k_ c2 : Value)) he1096) (RP.re 113 rfl (congrArg (fun k_ : Nat => (.slice A1 k_ c2 : Value)) he1096) (RP.re 115 rfl (congrArg (fun k_ : Nat => (.slice A1 k_ c2 : Value)) he1096) (RP.re 118 rfl (congrArg (fun k_ : Nat => (.slice A1 k_ c2 : Value)) he1096) (RP.re 123 rfl (congrArg (fun k_ : Nat => (.slice A1 k_ c2 : Value)) he1096) ?_))))
      obtain ⟨hq1097, h⟩ := h.req
      refine RP.v1 16 rfl (Vl.indexOwn 0 hS rfl underlying49 sizeOf53 rfl rfl hq1092 hq1097) rfl rfl (RP.e0 17 rfl (OW.storeOwn (E := E_api_Message) (off := 0) (j := IntKind.i64.wrap (x1063 - 1)) (x' := (⟨(nth l1062 x1063).Key, (nth l1062 x1063).To, (nth l1062 x1063).Value, (nth l1062 x1063).Uid, ((nth l1062 x1063).Anti)⟩ : api_Message)) (vs := [.int .i64 (((nth l1062 x1063).Key).Time), .int .i64 (((nth l1062 x1063).Key).From), .int .i64 (((nth l1062 x1063).Key).Seq), .int .i64 ((nth l1062 x1063).To), .int .i64 ((nth l1062 x1063).Value), .int .i64 ((nth l1062 x1063).Uid), .bool ((nth l1062 x1063).Anti)]) 0 hS rfl rfl rfl rfl sizeOf53 rfl (Nat.succ_pos _) hq1092 hq1097 (Nat.le_of_ble_eq_true rfl) rfl rfl) rfl ?_)
      rintro _ w ⟨rfl, hS⟩
      have he1098 := (hS.osN 0 rfl).1
      have hS : St B w (_ :: l) hf := (congrArg (fun k_ : Nat => St B w (OSf E_api_Message 53 (.slice A1 k_ c2) (setL (setL l1062 x1063 (⟨(nth l1062 (IntKind.i64.wrap (x1063 - 1))).Key, (nth l1062 (IntKind.i64.wrap (x1063 - 1))).To, (nth l1062 (IntKind.i64.wrap (x1063 - 1))).Value, (nth l1062 (IntKind.i64.wrap (x1063 - 1))).Uid, ((nth l1062 (IntKind.i64.wrap (x1063 - 1))).Anti)⟩ : api_Message)) (IntKind.i64.wrap (x1063 - 1)) (⟨(nth l1062 x1063).Key, (nth l1062 x1063).To, (nth l1062 x1063).Value, (nth l1062 x1063).Uid, ((nth l1062 x1063).Anti)⟩ : api_Message)) :: l) hf) he1098).mp hS
      refine ⟨kp ⟨(by intro hx; cases hx), trivial⟩, ?_⟩
      refine RP.re 0 rfl (congrArg (fun k_ : Nat => (.slice A1 k_ c2 : Value)) he1098) (RP.re 113 rfl (congrArg (fun k_ : Nat => (.slice A1 k_ c2 : Value)) he1098) (RP.re 115 rfl (congrArg (fun k_ : Nat => (.slice A1 k_ c2 : Value)) he1098) (RP.re 118 rfl (congrArg (fun k_ : Nat => (.slice A1 k_ c2 : Value)) he1098) (RP.re 123 rfl (congrArg (fun k_ : Nat => (.slice A1 k_ c2 : Value)) he1098) (RP.nil (RQ.inB_n (RQ.then_n (RC.region (pn 3 rfl (RL.nil ?_))))))))))
      exact fun a ha => ⟨((setL (setL l1062 x1063 (⟨(nth l1062 (IntKind.i64.wrap (x1063 - 1))).Key, (nth l1062 (IntKind.i64.wrap (x1063 - 1))).To, (nth l1062 (IntKind.i64.wrap (x1063 - 1))).Value, (nth l1062 (IntKind.i64.wrap (x1063 - 1))).Uid, ((nth l1062 (IntKind.i64.wrap (x1063 - 1))).Anti)⟩ : api_Message)) (IntKind.i64.wrap (x1063 - 1)) (⟨(nth l1062 x1063).Key, (nth l1062 x1063).To, (nth l1062 x1063).Value, (nth l1062 x1063).Uid, ((nth l1062 x1063).Anti)⟩ : api_Message)), IntKind.i64.wrap (x1063 - 1)), ⟨(setL (setL l1062 x1063 (⟨(nth l1062 (IntKind.i64.wrap (x1063 - 1))).Key, (nth l1062 (IntKind.i64.wrap (x1063 - 1))).To, (nth l1062 (IntKind.i64.wrap (x1063 - 1))).Value, (nth l1062 (IntKind.i64.wrap (x1063 - 1))).Uid, ((nth l1062 (IntKind.i64.wrap (x1063 - 1))).Anti)⟩ : api_Message)) (IntKind.i64.wrap (x1063 - 1)) (⟨(nth l1062 x1063).Key, (nth l1062 x1063).To, (nth l1062 x1063).Value, (nth l1062 x1063).Uid, ((nth l1062 x1063).Anti)⟩ : api_Message)), (IntKind.i64.wrap (x1063 - 1)), rfl, ha.to ⟨rfl, rfl, rfl, trivial⟩, hS⟩, h.some⟩
     next =>
      refine RC.condF rfl (RC.exit (RQ.exitT ?_))
      have h := h.inr
      refine RQ.exitT (RQ.inB_hit (tr (RQ.ret ?_)))
      obtain ⟨hq1099, h⟩ := h.req
      have hS : St B w (_ :: l) hf := (congrArg (fun k_ : Nat => St B w (OSf E_api_Message 53 (.slice A1 k_ c2) l1062 :: l) hf) hq1099).mp hS
      obtain rfl := h.some
      exact rt results87 rfl ⟨rfl, hS⟩
   next =>
    refine RC.condF rfl (sk (sr (pn 3 rfl (RL.s (Vl.conv underlying3 underlying203 rfl) rfl (RL.s (Vl.shr rfl rfl (by decide)) rfl (RL.s (Vl.conv underlying203 underlying3 rfl) rfl (pn 1 rfl (lnsr (pn 4 rfl (RL.nil ?_))))))))))
    refine tsr (pn 2 rfl (ln ?_))
    refine RC.join (fun (s : Int × Int) a w => ∃ (x1101 : Int) (x1102 : Int), s = (x1101, x1102) ∧ Has 220 [(0, .slice A1 a3.length c2), (1, .int .i64 a4), (2, .int .i64 a5), (3, .int .i64 a6), (4, .func (.func 32) #[] #[]), (18, .int .i64 (IntKind.i64.wrap (Int.fdiv (IntKind.u64.wrap (IntKind.i64.wrap (a4 + a6))) (2 ^ (min (1 : Int).toNat IntKind.u64.bits))))), (19, .int .i64 (IntKind.i64.wrap ((IntKind.i64.wrap (Int.fdiv (IntKind.u64.wrap (IntKind.i64.wrap (a4 + a6))) (2 ^ (min (1 : Int).toNat IntKind.u64.bits)))) + a5))), (20, .int .i64 x1101), (21, .int .i64 x1102)] a ∧ St B w (OSf E_api_Message 53 (.slice A1 a3.length c2) a3 :: l) hf ∧ Holds (· = r) (slices_symMergeCmpFunc_api_Message.j30 rec_ a3 a4 a5 a6 x1101 x1102)) ?_ ?_
    · rintro _ a w ⟨x1101, x1102, rfl, ha, hS, h⟩
      revert a
      show RC _ _ _ _ _ _
      refine sr (pn 3 rfl (ln (RC.seq (RC.block ?_))))
      refine fun a ha => RC.loop (N := 220) (body := (slices_symMergeCmpFunc_api_Message.l32b rec_ a3 a4 a5 a6)) (φ := (· = r)) (fun (s : Int × Int) a w => ∃ (x1148 : Int) (x1149 : Int), s = (x1148, x1149) ∧ Has 220 [(0, .slice A1 a3.length c2), (1, .int .i64 a4), (2, .int .i64 a5), (3, .int .i64 a6), (4, .func (.func 32) #[] #[]), (18, .int .i64 (IntKind.i64.wrap (Int.fdiv (IntKind.u64.wrap (IntKind.i64.wrap (a4 + a6))) (2 ^ (min (1 : Int).toNat IntKind.u64.bits))))), (19, .int .i64 (IntKind.i64.wrap ((IntKind.i64.wrap (Int.fdiv (IntKind.u64.wrap (IntKind.i64.wrap (a4 + a6))) (2 ^ (min (1 : Int).toNat IntKind.u64.bits)))) + a5))), (20, .int .i64 x1148), (21, .int .i64 x1149), (22, .int .i64 (IntKind.i64.wrap ((IntKind.i64.wrap ((IntKind.i64.wrap (Int.fdiv (IntKind.u64.wrap (IntKind.i64.wrap (a4 + a6))) (2 ^ (min (1 : Int).toNat IntKind.u64.bits)))) + a5)) - 1)))] a ∧ St B w (OSf E_api_Message 53 (.slice A1 a3.length c2) a3 :: l) hf) ?_ (s0 := (x1101, x1102)) h ⟨x1101, x1102, rfl, ha.to ⟨rfl, rfl, rfl, rfl, rfl, rfl, rfl, rfl, rfl, rfl, trivial⟩, hS⟩
      rintro G1161 _ a w ⟨x1148, x1149, rfl, ha, hS⟩ h
      revert a
      show RC _ _ _ _ _ _
      refine RC.seq (sr (pn 3 rfl (ln ?_)))
      refine RC.iteP 151 rfl h (fun hc1163 h => ?_) fun hc1163 h => ?_
      next =>
       refine RC.condT rfl (sk (RC.block (sr (pn 3 rfl (RL.s (Vl.conv underlying3 underlying203 rfl) rfl (RL.s (Vl.shr rfl rfl (by decide)) rfl (RL.s (Vl.conv underlying203 underlying3 rfl) rfl (pn 1 rfl (ln (RC.seq (RC.planS (plD [0, 3, 6, 9, 12, 16, 19, 21, 26, 29, 32, 35, 38, 41]) [11, 12, 13] hS (fun w hS => hS) follows rfl (by kernel_rfl) (NoTmp.then (NoTmp.block (NoTmp.then (NoTmp.block (NoTmp.then NoTmp.body))))) fun w hS => pp 5 rfl ?_)))))))))))
       obtain ⟨⟨hq1164, hq1165⟩, h⟩ := h.req
       refine RP.s 0 5 rfl rfl hS (fun w hS => Vl.indexOwn 0 hS rfl underlying49 sizeOf53 rfl rfl hq1164 hq1165) rfl (RP.s 0 6 rfl rfl hS (fun w hS => Vl.loadA isAgg53 sizeOf53 rfl rfl ((hS.slW 0 rfl).2.2.cells hq1164 hq1165)) rfl (pp 1 rfl (RP.v1 8 rfl (Vl.move rfl) rfl rfl ?_)))
       obtain ⟨⟨hq1166, hq1167⟩, h⟩ := h.req
       refine RP.v1 9 rfl (Vl.indexOwn 0 hS rfl underlying49 sizeOf53 rfl rfl hq1166 hq1167) rfl rfl (RP.v1 10 rfl (Vl.loadA isAgg53 sizeOf53 rfl rfl ((hS.slW 0 rfl).2.2.cells hq1166 hq1167)) rfl rfl ?_)
       obtain ⟨t1168, hg1169, h⟩ := h.bind
       have hc := event_order.ok hg1169 hS
       refine RP.e 11 rfl (OW.call (ls := [.tmp 164, .tmp 168]) rfl rfl call32 rfl hc) rfl rfl ?_
       rintro _ w ⟨rfl, hS⟩
       refine ⟨kp ⟨(by intro hx; cases hx), trivial⟩, ?_⟩
       refine RP.v1 12 rfl (Vl.int rfl rfl rfl) rfl rfl (RP.v1 13 rfl (Vl.not rfl) rfl rfl (RP.nil (RQ.then_n ?_)))
       refine RC.iteN 171 rfl h (fun hc1170 h => ?_) fun hc1170 h => ?_
       next =>
        refine RC.condF rfl (RC.region (pn 2 rfl (RL.nil (RQ.inB_n ?_))))
        exact fun a ha => ⟨(x1148, IntKind.i64.wrap (Int.fdiv (IntKind.u64.wrap (IntKind.i64.wrap (x1148 + x1149))) (2 ^ (min (1 : Int).toNat IntKind.u64.bits)))), ⟨x1148, (IntKind.i64.wrap (Int.fdiv (IntKind.u64.wrap (IntKind.i64.wrap (x1148 + x1149))) (2 ^ (min (1 : Int).toNat IntKind.u64.bits)))), rfl, ha.to ⟨rfl, rfl, rfl, rfl, rfl, rfl, rfl, rfl, rfl, rfl, trivial⟩, hS⟩, h.some⟩
       next =>
        refine RC.condT rfl (RC.region (pn 3 rfl (RL.nil (RQ.inB_n ?_))))
        exact fun a ha => ⟨(IntKind.i64.wrap ((IntKind.i64.wrap (Int.fdiv (IntKind.u64.wrap (IntKind.i64.wrap (x1148 + x1149))) (2 ^ (min (1 : Int).toNat IntKind.u64.bits)))) + 1), x1149), ⟨(IntKind.i64.wrap ((IntKind.i64.wrap (Int.fdiv (IntKind.u64.wrap (IntKind.i64.wrap (x1148 + x1149))) (2 ^ (min (1 : Int).toNat IntKind.u64.bits)))) + 1)), x1149, rfl, ha.to ⟨rfl, rfl, rfl, rfl, rfl, rfl, rfl, rfl, rfl, rfl, trivial⟩, hS⟩, h.some⟩
      next =>
       refine RC.condF rfl (RC.exit (RQ.exitT ?_))
       have h := h.inr
       refine RQ.exitT (RQ.inB_hit (tsr (pn 4 rfl (ln ?_))))
       refine RC.join (fun (s : List api_Message) a w => ∃ (l1176 : List api_Message), s = (l1176) ∧ Has 220 [(0, .slice A1 l1176.length c2), (1, .int .i64 a4), (3, .int .i64 a6), (4, .func (.func 32) #[] #[]), (18, .int .i64 (IntKind.i64.wrap (Int.fdiv (IntKind.u64.wrap (IntKind.i64.wrap (a4 + a6))) (2 ^ (min (1 : Int).toNat IntKind.u64.bits))))), (20, .int .i64 x1148), (24, .int .i64 (IntKind.i64.wrap ((IntKind.i64.wrap ((IntKind.i64.wrap (Int.fdiv (IntKind.u64.wrap (IntKind.i64.wrap (a4 + a6))) (2 ^ (min (1 : Int).toNat IntKind.u64.bits)))) + a5)) - x1148)))] a ∧ St B w (OSf E_api_Message 53 (.slice A1 l1176.length c2) l1176 :: l) hf ∧ Holds (· = r) (slices_symMergeCmpFunc_api_Message.j33 rec_ a3 a4 a5 a6 x1148 l1176)) ?_ ?_
       · rintro l1176 a w ⟨_, rfl, ha, hS, h⟩
         revert a
         show RC _ _ _ _ _ _
         refine RC.join (fun (s : List api_Message) a w => ∃ (l1182 : List api_Message), s = (l1182) ∧ Has 220 [(0, .slice A1 l1182.length c2), (3, .int .i64 a6), (4, .func (.func 32) #[] #[]), (18, .int .i64 (IntKind.i64.wrap (Int.fdiv (IntKind.u64.wrap (IntKind.i64.wrap (a4 + a6))) (2 ^ (min (1 : Int).toNat IntKind.u64.bits))))), (24, .int .i64 (IntKind.i64.wrap ((IntKind.i64.wrap ((IntKind.i64.wrap (Int.fdiv (IntKind.u64.wrap (IntKind.i64.wrap (a4 + a6))) (2 ^ (min (1 : Int).toNat IntKind.u64.bits)))) + a5)) - x1148)))] a ∧ St B w (OSf E_api_Message 53 (.slice A1 l1182.length c2) l1182 :: l) hf ∧ Holds (· = r) (slices_symMergeCmpFunc_api_Message.j34 rec_ a3 a4 a5 a6 x1148 l1182)) ?_ ?_
         · rintro l1182 a w ⟨_, rfl, ha, hS, h⟩
           revert a
           show RC _ _ _ _ _ _
           refine sr (pn 4 rfl ?_)
           refine RL.iteP 209 rfl h (fun hc1183 h => ?_) fun hc1183 h => ?_
           next =>
            refine pn 4 rfl (ln ?_)
            refine RC.iteP 213 rfl h (fun hc1184 h => ?_) fun hc1184 h => ?_
            next =>
             refine RC.condT rfl (RC.region (pn 5 rfl ?_))
             obtain ⟨t1185, hg1186, h⟩ := h.bind
             have hc := ih_ hg1186 hS
             refine RL.e (OW.callF (ls := [.tmp 214, .tmp 215, .tmp 216, .tmp 217, .tmp 218]) rfl call87 hc) rfl rfl ?_
             rintro _ w ⟨rfl, hS⟩
             have he1187 := (hS.osN 0 rfl).1
             have hS : St B w (_ :: l) hf := (congrArg (fun k_ : Nat => St B w (OSf E_api_Message 53 (.slice A1 k_ c2) t1185 :: l) hf) he1187).mp hS
             refine RL.re 0 rfl (congrArg (fun k_ : Nat => (.slice A1 k_ c2 : Value)) he1187) (RL.re 214 rfl (congrArg (fun k_ : Nat => (.slice A1 k_ c2 : Value)) he1187) (RL.nil ?_))
             obtain ⟨hq1188, h⟩ := h.req
             have hS : St B w (_ :: l) hf := (congrArg (fun k_ : Nat => St B w (OSf E_api_Message 53 (.slice A1 k_ c2) t1185 :: l) hf) hq1188).mp hS
             obtain rfl := h.some
             exact rtE results87 rfl ⟨rfl, hS⟩
            next =>
             refine RC.condF rfl (RC.skip ?_)
             obtain ⟨hq1189, h⟩ := h.req
             have hS : St B w (_ :: l) hf := (congrArg (fun k_ : Nat => St B w (OSf E_api_Message 53 (.slice A1 k_ c2) l1182 :: l) hf) hq1189).mp hS
             obtain rfl := h.some
             exact rtE results87 rfl ⟨rfl, hS⟩
           next =>
            refine pn 4 rfl (ln (RC.condF rfl (RC.skip ?_)))
            obtain ⟨hq1190, h⟩ := h.req
            have hS : St B w (_ :: l) hf := (congrArg (fun k_ : Nat => St B w (OSf E_api_Message 53 (.slice A1 k_ c2) l1182 :: l) hf) hq1190).mp hS
            obtain rfl := h.some
            exact rtE results87 rfl ⟨rfl, hS⟩
         · refine RC.seq ?_
           refine RC.region (pn 4 rfl ?_)
           refine RL.iteP 195 rfl h (fun hc1191 h => ?_) fun hc1191 h => ?_
           next =>
            refine pn 4 rfl (ln ?_)
            refine RC.iteP 199 rfl h (fun hc1192 h => ?_) fun hc1192 h => ?_
            next =>
             refine RC.condT rfl (RC.region (pn 5 rfl ?_))
             obtain ⟨t1193, hg1194, h⟩ := h.bind
             have hc := ih_ hg1194 hS
             refine RL.e (OW.callF (ls := [.tmp 200, .tmp 201, .tmp 202, .tmp 203, .tmp 204]) rfl call87 hc) rfl rfl ?_
             rintro _ w ⟨rfl, hS⟩
             have he1195 := (hS.osN 0 rfl).1
             have hS : St B w (_ :: l) hf := (congrArg (fun k_ : Nat => St B w (OSf E_api_Message 53 (.slice A1 k_ c2) t1193 :: l) hf) he1195).mp hS
             refine RL.re 0 rfl (congrArg (fun k_ : Nat => (.slice A1 k_ c2 : Value)) he1195) (RL.re 200 rfl (congrArg (fun k_ : Nat => (.slice A1 k_ c2 : Value)) he1195) (RL.nil ?_))
             exact fun a ha => ⟨(t1193), t1193, rfl, ha.to ⟨rfl, rfl, rfl, rfl, rfl, trivial⟩, hS, h⟩
            next =>
             refine RC.condF rfl (RC.skip ?_)
             exact fun a ha => ⟨(l1176), l1176, rfl, ha.to ⟨rfl, rfl, rfl, rfl, rfl, trivial⟩, hS, h⟩
           next =>
            refine pn 4 rfl (ln (RC.condF rfl (RC.skip ?_)))
            exact fun a ha => ⟨(l1176), l1176, rfl, ha.to ⟨rfl, rfl, rfl, rfl, rfl, trivial⟩, hS, h⟩
       · refine RC.seq ?_
         refine RC.region (pn 4 rfl ?_)
         refine RL.iteP 181 rfl h (fun hc1196 h => ?_) fun hc1196 h => ?_
         next =>
          refine pn 4 rfl (ln ?_)
          refine RC.iteP 185 rfl h (fun hc1197 h => ?_) fun hc1197 h => ?_
          next =>
           refine RC.condT rfl (RC.region (pn 5 rfl ?_))
           obtain ⟨t1198, hg1199, h⟩ := h.bind
           have hc := slices_rotateCmpFunc_api_Message.ok hg1199 hS
           refine RL.e (OW.callF (ls := [.tmp 186, .tmp 187, .tmp 188, .tmp 189, .tmp 190]) rfl call99 hc) rfl rfl ?_
           rintro _ w ⟨rfl, hS⟩
           have he1200 := (hS.osN 0 rfl).1
           have hS : St B w (_ :: l) hf := (congrArg (fun k_ : Nat => St B w (OSf E_api_Message 53 (.slice A1 k_ c2) t1198 :: l) hf) he1200).mp hS
           refine RL.re 0 rfl (congrArg (fun k_ : Nat => (.slice A1 k_ c2 : Value)) he1200) (RL.re 186 rfl (congrArg (fun k_ : Nat => (.slice A1 k_ c2 : Value)) he1200) (RL.nil ?_))
           exact fun a ha => ⟨(t1198), t1198, rfl, ha.to ⟨rfl, rfl, rfl, rfl, rfl, rfl, rfl, trivial⟩, hS, h⟩
          next =>
           refine RC.condF rfl (RC.skip ?_)
           exact fun a ha => ⟨(a3), a3, rfl, ha.to ⟨rfl, rfl, rfl, rfl, rfl, rfl, rfl, trivial⟩, hS, h⟩
         next =>
          refine pn 4 rfl (ln (RC.condF rfl (RC.skip ?_)))
          exact fun a ha => ⟨(a3), a3, rfl, ha.to ⟨rfl, rfl, rfl, rfl, rfl, rfl, rfl, trivial⟩, hS, h⟩
    · refine RC.seq ?_
      refine RC.region (pn 3 rfl (ln ?_))
      refine RC.iteP 140 rfl h (fun hc1201 h => ?_) fun hc1201 h => ?_
      next =>
       refine RC.condT rfl (sr (pn 4 rfl (ln (RC.region (pn 2 rfl (RL.nil ?_))))))
       exact fun a ha => ⟨(IntKind.i64.wrap ((IntKind.i64.wrap ((IntKind.i64.wrap (Int.fdiv (IntKind.u64.wrap (IntKind.i64.wrap (a4 + a6))) (2 ^ (min (1 : Int).toNat IntKind.u64.bits)))) + a5)) - a6), IntKind.i64.wrap (Int.fdiv (IntKind.u64.wrap (IntKind.i64.wrap (a4 + a6))) (2 ^ (min (1 : Int).toNat IntKind.u64.bits)))), (IntKind.i64.wrap ((IntKind.i64.wrap ((IntKind.i64.wrap (Int.fdiv (IntKind.u64.wrap (IntKind.i64.wrap (a4 + a6))) (2 ^ (min (1 : Int).toNat IntKind.u64.bits)))) + a5)) - a6)), (IntKind.i64.wrap (Int.fdiv (IntKind.u64.wrap (IntKind.i64.wrap (a4 + a6))) (2 ^ (min (1 : Int).toNat IntKind.u64.bits)))), rfl, ha.to ⟨rfl, rfl, rfl, rfl, rfl, rfl, rfl, rfl, rfl, trivial⟩, hS, h⟩
      next =>
       refine RC.condF rfl (sr (pn 2 rfl (ln (RC.region (pn 2 rfl (RL.nil ?_))))))
       exact fun a ha => ⟨(a4, a5), a4, a5, rfl, ha.to ⟨rfl, rfl, rfl, rfl, rfl, rfl, rfl, rfl, rfl, trivial⟩, hS, h⟩
noncomputable def slices_symMergeCmpFunc_api_Message.F : Nat → (List api_Message) → Int → Int → Int → Option (List api_Message)
  | 0, _, _, _, _ => none
  | n + 1, a3, a4, a5, a6 => slices_symMergeCmpFunc_api_Message.f0 (slices_symMergeCmpFunc_api_Message.F n) a3 a4 a5 a6
theorem slices_symMergeCmpFunc_api_Message.okF : ∀ (n : Nat) {a3 : List api_Message} {a4 a5 a6 : Int} {A1 : Option Addr} {c2 : Nat} {r : List api_Message} {B : Base} {w : World} {l : List HProp} {hf : Hp}, slices_symMergeCmpFunc_api_Message.F n a3 a4 a5 a6 = some r → St B w (OSf E_api_Message 53 (.slice A1 a3.length c2) a3 :: l) hf → Calls prog 87 #[.slice A1 a3.length c2, .int .i64 a4, .int .i64 a5, .int .i64 a6, .func (.func 32) #[] #[]] w (Ret fun v w => v = .tuple #[] ∧ St B w (OSf E_api_Message 53 (.slice A1 a3.length c2) r :: l) hf) := by
  intro n
  induction n with
  | zero => intro _ _ _ _ _ _ _ _ _ _ _ h; cases h
  | succ n ih => intro _ _ _ _ _ _ _ _ _ _ _ h hS; exact slices_symMergeCmpFunc_api_Message.ok0 ih h hS
noncomputable def slices_symMergeCmpFunc_api_Message.f (a3 : List api_Message) (a4 a5 a6 : Int) : Option (List api_Message) := slices_symMergeCmpFunc_api_Message.F (a3.length + 1) a3 a4 a5 a6
theorem slices_symMergeCmpFunc_api_Message.ok {a3 : List api_Message} {a4 a5 a6 : Int} {A1 : Option Addr} {c2 : Nat} {r : List api_Message} (h : slices_symMergeCmpFunc_api_Message.f a3 a4 a5 a6 = some r) (hS : St B w (OSf E_api_Message 53 (.slice A1 a3.length c2) a3 :: l) hf) :
    Calls prog 87 #[.slice A1 a3.length c2, .int .i64 a4, .int .i64 a5, .int .i64 a6, .func (.func 32) #[] #[]] w (Ret fun v w => v = .tuple #[] ∧ St B w (OSf E_api_Message 53 (.slice A1 a3.length c2) r :: l) hf) := slices_symMergeCmpFunc_api_Message.okF _ h hS
/-! ### slices.stableCmpFunc[isochron/api.Message]: function 73 -/
noncomputable def slices_stableCmpFunc_api_Message.j24 (x365 : Int) (l486 : List api_Message) : Option ((List api_Message × Int) ⊕ (List api_Message)) := some (.inl (l486, IntKind.i64.wrap (x365 * 2)))
noncomputable def slices_stableCmpFunc_api_Message.l23b (a4 x365 : Int) : List api_Message × Int × Int → Option ((List api_Message × Int × Int) ⊕ ((List api_Message × Int) ⊕ (List api_Message)))
  | (l465, x466, x467) => (if x467 ≤ a4 then ((slices_symMergeCmpFunc_api_Message.f l465 x466 (IntKind.i64.wrap (x466 + x365)) x467).bind fun t479 => some (.inl (t479, x467, IntKind.i64.wrap (x467 + (IntKind.i64.wrap (2 * x365)))))) else (Option.map Sum.inr (if IntKind.i64.wrap (x466 + x365) < a4 then ((slices_symMergeCmpFunc_api_Message.f l465 x466 (IntKind.i64.wrap (x466 + x365)) a4).bind fun t488 => slices_stableCmpFunc_api_Message.j24 x365 t488) else slices_stableCmpFunc_api_Message.j24 x365 l465)))
noncomputable def slices_stableCmpFunc_api_Message.l23 (a4 x365 : Int) (s : List api_Message × Int × Int) : Option ((List api_Message × Int) ⊕ (List api_Message)) := loopR (slices_stableCmpFunc_api_Message.l23b a4 x365) s
noncomputable def slices_stableCmpFunc_api_Message.l21b (a3 : List api_Message) (a4 : Int) : List api_Message × Int → Option ((List api_Message × Int) ⊕ (List api_Message))
  | (l364, x365) => (if x365 < a4 then slices_stableCmpFunc_api_Message.l23 a4 x365 (l364, 0, IntKind.i64.wrap (2 * x365)) else (Option.map Sum.inr (if l364.length = a3.length then some l364 else none)))
noncomputable def slices_stableCmpFunc_api_Message.l21 (a3 : List api_Message) (a4 : Int) (s : List api_Message × Int) : Option (List api_Message) := loopR (slices_stableCmpFunc_api_Message.l21b a3 a4) s
noncomputable def slices_stableCmpFunc_api_Message.l14b (a3 : List api_Message) (a4 : Int) : List api_Message × Int × Int → Option ((List api_Message × Int × Int) ⊕ (List api_Message))
  | (l281, x282, x283) => (if x283 ≤ a4 then ((slices_insertionSortCmpFunc_api_Message.f l281 x282 x283).bind fun t295 => some (.inl (t295, x283, IntKind.i64.wrap (x283 + 20)))) else (Option.map Sum.inr ((slices_insertionSortCmpFunc_api_Message.f l281 x282 a4).bind fun t298 => slices_stableCmpFunc_api_Message.l21 a3 a4 (t298, 20))))
noncomputable def slices_stableCmpFunc_api_Message.l14 (a3 : List api_Message) (a4 : Int) (s : List api_Message × Int × Int) : Option (List api_Message) := loopR (slices_stableCmpFunc_api_Message.l14b a3 a4) s
noncomputable def slices_stableCmpFunc_api_Message.f (a3 : List api_Message) (a4 : Int) : Option (List api_Message) := slices_stableCmpFunc_api_Message.l14 a3 a4 (a3, 0, 20)
theorem slices_stableCmpFunc_api_Message.ok {a3 : List api_Message} {a4 : Int} {A1 : Option Addr} {c2 : Nat} {r : List api_Message} (h : slices_stableCmpFunc_api_Message.f a3 a4 = some r) (hS : St B w (OSf E_api_Message 53 (.slice A1 a3.length c2) a3 :: l) hf) :
    Calls prog 73 #[.slice A1 a3.length c2, .int .i64 a4, .func (.func 32) #[] #[]] w (Ret fun v w => v = .tuple #[] ∧ St B w (OSf E_api_Message 53 (.slice A1 a3.length c2) r :: l) hf) := by
  have h := Holds.of h
  refine en func73 rfl ntmps73 rfl (sr (pn 1 rfl (lnsr (pn 3 rfl (ln (RC.seq (RC.block ?_)))))))
  refine fun a ha => RC.loop (N := 63) (body := (slices_stableCmpFunc_api_Message.l14b a3 a4)) (φ := (· = r)) (fun (s : List api_Message × Int × Int) a w => ∃ (l281 : List api_Message) (x282 : Int) (x283 : Int), s = (l281, x282, x283) ∧ Has 63 [(0, .slice A1 l281.length c2), (1, .int .i64 a4), (2, .func (.func 32) #[] #[]), (6, .int .i64 20), (7, .int .i64 x282), (8, .int .i64 x283)] a ∧ St B w (OSf E_api_Message 53 (.slice A1 l281.length c2) l281 :: l) hf) ?_ (s0 := (a3, 0, 20)) h ⟨a3, 0, 20, rfl, ha.to ⟨rfl, rfl, rfl, rfl, rfl, rfl, trivial⟩, hS⟩
  rintro G292 _ a w ⟨l281, x282, x283, rfl, ha, hS⟩ h
  revert a
  show RC _ _ _ _ _ _
  refine RC.seq (sr (pn 3 rfl (ln ?_)))
  refine RC.iteP 13 rfl h (fun hc294 h => ?_) fun hc294 h => ?_
  next =>
   refine RC.condT rfl (sk (RC.block (sr (pn 4 rfl ?_))))
   obtain ⟨t295, hg296, h⟩ := h.bind
   have hc := slices_insertionSortCmpFunc_api_Message.ok hg296 hS
   refine RL.e (OW.callF (ls := [.tmp 14, .tmp 15, .tmp 16, .tmp 17]) rfl call86 hc) rfl rfl ?_
   rintro _ w ⟨rfl, hS⟩
   have he297 := (hS.osN 0 rfl).1
   have hS : St B w (_ :: l) hf := (congrArg (fun k_ : Nat => St B w (OSf E_api_Message 53 (.slice A1 k_ c2) t295 :: l) hf) he297).mp hS
   refine RL.re 0 rfl (congrArg (fun k_ : Nat => (.slice A1 k_ c2 : Value)) he297) (RL.re 14 rfl (congrArg (fun k_ : Nat => (.slice A1 k_ c2 : Value)) he297) (lnsr (pn 2 rfl (ln (RC.region (pn 4 rfl (RL.nil (RQ.inB_n ?_))))))))
   exact fun a ha => ⟨(t295, x283, IntKind.i64.wrap (x283 + 20)), ⟨t295, x283, (IntKind.i64.wrap (x283 + 20)), rfl, ha.to ⟨rfl, rfl, rfl, rfl, rfl, rfl, trivial⟩, hS⟩, h.some⟩
  next =>
   refine RC.condF rfl (RC.exit (RQ.exitT ?_))
   have h := h.inr
   refine RQ.exitT (RQ.inB_hit (tsr (pn 4 rfl ?_)))
   obtain ⟨t298, hg299, h⟩ := h.bind
   have hc := slices_insertionSortCmpFunc_api_Message.ok hg299 hS
   refine RL.e (OW.callF (ls := [.tmp 23, .tmp 24, .tmp 25, .tmp 26]) rfl call86 hc) rfl rfl ?_
   rintro _ w ⟨rfl, hS⟩
   have he300 := (hS.osN 0 rfl).1
   have hS : St B w (_ :: l) hf := (congrArg (fun k_ : Nat => St B w (OSf E_api_Message 53 (.slice A1 k_ c2) t298 :: l) hf) he300).mp hS
   refine RL.re 0 rfl (congrArg (fun k_ : Nat => (.slice A1 k_ c2 : Value)) he300) (RL.re 23 rfl (congrArg (fun k_ : Nat => (.slice A1 k_ c2 : Value)) he300) (ln (RC.block ?_)))
   refine fun a ha => RC.loop (N := 63) (body := (slices_stableCmpFunc_api_Message.l21b a3 a4)) (φ := (· = r)) (fun (s : List api_Message × Int) a w => ∃ (l364 : List api_Message) (x365 : Int), s = (l364, x365) ∧ Has 63 [(0, .slice A1 l364.length c2), (1, .int .i64 a4), (2, .func (.func 32) #[] #[]), (6, .int .i64 x365)] a ∧ St B w (OSf E_api_Message 53 (.slice A1 l364.length c2) l364 :: l) hf) ?_ (s0 := (t298, 20)) h ⟨t298, 20, rfl, ha.to ⟨rfl, rfl, rfl, rfl, trivial⟩, hS⟩
   rintro G429 _ a w ⟨l364, x365, rfl, ha, hS⟩ h
   revert a
   show RC _ _ _ _ _ _
   refine RC.seq (sr (pn 3 rfl (ln ?_)))
   refine RC.iteP 30 rfl h (fun hc431 h => ?_) fun hc431 h => ?_
   next =>
    refine RC.condT rfl (sk (RC.block (sr (pn 4 rfl (ln (RC.seq (RC.block ?_)))))))
    refine fun a ha => RC.loop (N := 63) (body := (slices_stableCmpFunc_api_Message.l23b a4 x365)) (φ := (Sum.elim G429 (· = r))) (fun (s : List api_Message × Int × Int) a w => ∃ (l465 : List api_Message) (x466 : Int) (x467 : Int), s = (l465, x466, x467) ∧ Has 63 [(0, .slice A1 l465.length c2), (1, .int .i64 a4), (2, .func (.func 32) #[] #[]), (6, .int .i64 x365), (7, .int .i64 x466), (8, .int .i64 x467)] a ∧ St B w (OSf E_api_Message 53 (.slice A1 l465.length c2) l465 :: l) hf) ?_ (s0 := (l364, 0, IntKind.i64.wrap (2 * x365))) h ⟨l364, 0, (IntKind.i64.wrap (2 * x365)), rfl, ha.to ⟨rfl, rfl, rfl, rfl, rfl, rfl, trivial⟩, hS⟩
    rintro G476 _ a w ⟨l465, x466, x467, rfl, ha, hS⟩ h
    revert a
    show RC _ _ _ _ _ _
    refine RC.seq (sr (pn 3 rfl (ln ?_)))
    refine RC.iteP 35 rfl h (fun hc478 h => ?_) fun hc478 h => ?_
    next =>
     refine RC.condT rfl (sk (RC.block (sr (pn 7 rfl ?_))))
     obtain ⟨t479, hg480, h⟩ := h.bind
     have hc := slices_symMergeCmpFunc_api_Message.ok hg480 hS
     refine RL.e (OW.callF (ls := [.tmp 36, .tmp 37, .tmp 40, .tmp 41, .tmp 42]) rfl call87 hc) rfl rfl ?_
     rintro _ w ⟨rfl, hS⟩
     have he481 := (hS.osN 0 rfl).1
     have hS : St B w (_ :: l) hf := (congrArg (fun k_ : Nat => St B w (OSf E_api_Message 53 (.slice A1 k_ c2) t479 :: l) hf) he481).mp hS
     refine RL.re 0 rfl (congrArg (fun k_ : Nat => (.slice A1 k_ c2 : Value)) he481) (RL.re 36 rfl (congrArg (fun k_ : Nat => (.slice A1 k_ c2 : Value)) he481) (lnsr (pn 2 rfl (ln (RC.region (pn 5 rfl (RL.nil (RQ.inB_n ?_))))))))
     exact fun a ha => ⟨(t479, x467, IntKind.i64.wrap (x467 + (IntKind.i64.wrap (2 * x365)))), ⟨t479, x467, (IntKind.i64.wrap (x467 + (IntKind.i64.wrap (2 * x365)))), rfl, ha.to ⟨rfl, rfl, rfl, rfl, rfl, rfl, trivial⟩, hS⟩, h.some⟩
    next =>
     refine RC.condF rfl (RC.exit (RQ.exitT ?_))
     have h := h.inr
     refine RQ.exitT (RQ.inB_hit (RQ.then_n ?_))
     refine RC.join (fun (s : List api_Message) a w => ∃ (l486 : List api_Message), s = (l486) ∧ Has 63 [(0, .slice A1 l486.length c2), (1, .int .i64 a4), (2, .func (.func 32) #[] #[]), (6, .int .i64 x365)] a ∧ St B w (OSf E_api_Message 53 (.slice A1 l486.length c2) l486 :: l) hf ∧ Holds (Sum.elim G429 (· = r)) (slices_stableCmpFunc_api_Message.j24 x365 l486)) ?_ ?_
     · rintro l486 a w ⟨_, rfl, ha, hS, h⟩
       revert a
       show RC _ _ _ _ _ _
       refine RC.region (pn 3 rfl (RL.nil (RQ.inB_n ?_)))
       exact fun a ha => ⟨(l486, IntKind.i64.wrap (x365 * 2)), ⟨l486, (IntKind.i64.wrap (x365 * 2)), rfl, ha.to ⟨rfl, rfl, rfl, rfl, trivial⟩, hS⟩, h.some⟩
     · refine RC.seq ?_
       refine RC.region (pn 4 rfl (lnsr (pn 3 rfl (ln ?_))))
       refine RC.iteP 54 rfl h (fun hc487 h => ?_) fun hc487 h => ?_
       next =>
        refine RC.condT rfl (RC.region (pn 5 rfl ?_))
        obtain ⟨t488, hg489, h⟩ := h.bind
        have hc := slices_symMergeCmpFunc_api_Message.ok hg489 hS
        refine RL.e (OW.callF (ls := [.tmp 55, .tmp 56, .tmp 57, .tmp 58, .tmp 59]) rfl call87 hc) rfl rfl ?_
        rintro _ w ⟨rfl, hS⟩
        have he490 := (hS.osN 0 rfl).1
        have hS : St B w (_ :: l) hf := (congrArg (fun k_ : Nat => St B w (OSf E_api_Message 53 (.slice A1 k_ c2) t488 :: l) hf) he490).mp hS
        refine RL.re 0 rfl (congrArg (fun k_ : Nat => (.slice A1 k_ c2 : Value)) he490) (RL.re 55 rfl (congrArg (fun k_ : Nat => (.slice A1 k_ c2 : Value)) he490) (RL.nil ?_))
        exact fun a ha => ⟨(t488), t488, rfl, ha.to ⟨rfl, rfl, rfl, rfl, trivial⟩, hS, h⟩
       next =>
        refine RC.condF rfl (RC.skip ?_)
        exact fun a ha => ⟨(l465), l465, rfl, ha.to ⟨rfl, rfl, rfl, rfl, trivial⟩, hS, h⟩
   next =>
    refine RC.condF rfl (RC.exit (RQ.exitT ?_))
    have h := h.inr
    refine RQ.exitT (RQ.inB_hit ?_)
    obtain ⟨hq491, h⟩ := h.req
    have hS : St B w (_ :: l) hf := (congrArg (fun k_ : Nat => St B w (OSf E_api_Message 53 (.slice A1 k_ c2) l364 :: l) hf) hq491).mp hS
    obtain rfl := h.some
    exact rtE results73 rfl ⟨rfl, hS⟩

/-! ### slices.SortStableFunc[[]isochron/api.Message,isochron/api.Message]: function 54 -/
noncomputable def slices_SortStableFunc_api_Message_api_Message.f (a3 : List api_Message) : Option (List api_Message) := ((slices_stableCmpFunc_api_Message.f a3 (a3.length : Int)).bind fun t7 => (if t7.length = a3.length then some t7 else none))
theorem slices_SortStableFunc_api_Message_api_Message.ok {a3 : List api_Message} {A1 : Option Addr} {c2 : Nat} {r : List api_Message} (h : slices_SortStableFunc_api_Message_api_Message.f a3 = some r) (hS : St B w (OSf E_api_Message 53 (.slice A1 a3.length c2) a3 :: l) hf) :
    Calls prog 54 #[.slice A1 a3.length c2, .func (.func 32) #[] #[]] w (Ret fun v w => v = .tuple #[] ∧ St B w (OSf E_api_Message 53 (.slice A1 a3.length c2) r :: l) hf) := by
  have h := Holds.of h
  refine en func54 rfl ntmps54 rfl (RC.region (pn 2 rfl (RL.s (Vl.lenSl underlying49 rfl) rfl (pn 1 rfl ?_))))
  obtain ⟨t7, hg8, h⟩ := h.bind
  have hc := slices_stableCmpFunc_api_Message.ok hg8 hS
  refine RL.e (OW.callF (ls := [.tmp 4, .tmp 6, .tmp 7]) rfl call73 hc) rfl rfl ?_
  rintro _ w ⟨rfl, hS⟩
  have he9 := (hS.osN 0 rfl).1
  have hS : St B w (_ :: l) hf := (congrArg (fun k_ : Nat => St B w (OSf E_api_Message 53 (.slice A1 k_ c2) t7 :: l) hf) he9).mp hS
  refine RL.re 0 rfl (congrArg (fun k_ : Nat => (.slice A1 k_ c2 : Value)) he9) (RL.re 4 rfl (congrArg (fun k_ : Nat => (.slice A1 k_ c2 : Value)) he9) (RL.re 5 rfl (congrArg (fun k_ : Nat => (.slice A1 k_ c2 : Value)) he9) (RL.nil ?_)))
  obtain ⟨hq10, h⟩ := h.req
  have hS : St B w (_ :: l) hf := (congrArg (fun k_ : Nat => St B w (OSf E_api_Message 53 (.slice A1 k_ c2) t7 :: l) hf) hq10).mp hS
  obtain rfl := h.some
  exact rtE results54 rfl ⟨rfl, hS⟩

/-! ### isochron/event.sorted[isochron/api.Message]: function 31 -/
noncomputable def event_sorted_api_Message.f (a1 : List api_Message) : Option (List api_Message) := ((slices_Clone_api_Message_api_Message.f a1).bind fun t16 => ((slices_SortStableFunc_api_Message_api_Message.f t16).bind fun t20 => some t20))
theorem event_sorted_api_Message.ok {a1 : List api_Message} {A2 : Option Addr} {c3 : Nat} (hr4 : SlR E_api_Message.rep hf A2 c3 a1) {r : List api_Message} (h : event_sorted_api_Message.f a1 = some r) (hS : St B w (l) hf) :
    Calls prog 31 #[.slice A2 a1.length c3, .func (.func 32) #[] #[]] w (Ret fun v w => ∃ (A_1 : Option Addr) (c_2 : Nat), v = .slice A_1 r.length c_2 ∧ St B w (OSf E_api_Message 53 (.slice A_1 r.length c_2) r :: l) hf) := by
  have h := Holds.of h
  refine en func31 rfl ntmps31 rfl (sr (pn 1 rfl (lnsr (pn 1 rfl (cF (fun _ hg => slices_Clone_api_Message_api_Message.ok hr4 hg hS) call53 h rfl rfl rfl ?_)))))
  rintro t16 h _ w ⟨A18, c19, rfl, hS⟩
  refine pn 1 rfl (lnsr (pn 2 rfl ?_))
  obtain ⟨t20, hg21, h⟩ := h.bind
  have hc := slices_SortStableFunc_api_Message_api_Message.ok hg21 hS
  refine RL.e (OW.callF (ls := [.tmp 8, .tmp 9]) rfl call54 hc) rfl rfl ?_
  rintro _ w ⟨rfl, hS⟩
  have he22 := (hS.osN 0 rfl).1
  have hS : St B w (_ :: l) hf := (congrArg (fun k_ : Nat => St B w (OSf E_api_Message 53 (.slice A18 k_ c19) t20 :: l) hf) he22).mp hS
  refine RL.re 7 rfl (congrArg (fun k_ : Nat => (.slice A18 k_ c19 : Value)) he22) (RL.re 5 rfl (congrArg (fun k_ : Nat => (.slice A18 k_ c19 : Value)) he22) (RL.re 8 rfl (congrArg (fun k_ : Nat => (.slice A18 k_ c19 : Value)) he22) (lnsr (pn 2 rfl (lr ?_)))))
  obtain rfl := h.some
  exact rt results31 rfl ⟨A18, c19, rfl, hS⟩

/-! ### isochron/event.Sorted: function 18 -/
noncomputable def event_Sorted.f (a1 : List api_Message) : Option (List api_Message) := ((event_sorted_api_Message.f a1).bind fun t9 => some t9)
theorem event_Sorted.ok {a1 : List api_Message} {A2 : Option Addr} {c3 : Nat} (hr4 : SlR E_api_Message.rep hf A2 c3 a1) {r : List api_Message} (h : event_Sorted.f a1 = some r) (hS : St B w (l) hf) :
    Calls prog 18 #[.slice A2 a1.length c3] w (Ret fun v w => ∃ (A_1 : Option Addr) (c_2 : Nat), v = .slice A_1 r.length c_2 ∧ St B w (OSf E_api_Message 53 (.slice A_1 r.length c_2) r :: l) hf) := by
  have h := Holds.of h
  refine en func18 rfl ntmps18 rfl (sr (pn 1 rfl (lnsr (pn 1 rfl (cF (fun _ hg => event_sorted_api_Message.ok hr4 hg hS) call31 h rfl rfl rfl ?_)))))
  rintro t9 h _ w ⟨A11, c12, rfl, hS⟩
  refine pn 1 rfl (lr ?_)
  obtain rfl := h.some
  exact rt results18 rfl ⟨A11, c12, rfl, hS⟩

end Go.Proofs.Gx
