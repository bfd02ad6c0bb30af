/- Facts about this seat's types and functions, printed by my own program; each is checked by the kernel. -/
import Derived.Test.YtfamikdibjhnpaaProg
import Derived.Test.YtfamikdibjhnpaaV9
import Derived.KernelRfl
namespace Go.Proofs.Ytfamikdibjhnpaa.V
open Go Go.Proofs
@[simp] theorem szT_1 : szT Try.prog 1 = some 1 := by kernel_rfl
@[simp] theorem byT_1 : byT Try.prog 1 = some 8 := by kernel_rfl
@[simp] theorem aggT_1 : aggT Try.prog 1 = some false := by kernel_rfl
@[simp] theorem zeroT_1 : zeroT Try.prog 1 = some [.nilFunc] := by kernel_rfl
@[simp] theorem eqK_1 : eqK Try.prog 1 = .func := by kernel_rfl
@[simp] theorem concT_1 : concT Try.prog 1 = true := by kernel_rfl
@[simp] theorem nintT_1 : nintT Try.prog 1 = true := by kernel_rfl
@[simp] theorem szT_2 : szT Try.prog 2 = some 1 := by kernel_rfl
@[simp] theorem byT_2 : byT Try.prog 2 = some 8 := by kernel_rfl
@[simp] theorem aggT_2 : aggT Try.prog 2 = some false := by kernel_rfl
@[simp] theorem zeroT_2 : zeroT Try.prog 2 = some [.int .i64 0] := by kernel_rfl
@[simp] theorem eqK_2 : eqK Try.prog 2 = .int := by kernel_rfl
@[simp] theorem concT_2 : concT Try.prog 2 = true := by kernel_rfl
@[simp] theorem szT_3 : szT Try.prog 3 = some 1 := by kernel_rfl
@[simp] theorem byT_3 : byT Try.prog 3 = some 8 := by kernel_rfl
@[simp] theorem aggT_3 : aggT Try.prog 3 = some false := by kernel_rfl
@[simp] theorem zeroT_3 : zeroT Try.prog 3 = some [.int .i64 0] := by kernel_rfl
@[simp] theorem eqK_3 : eqK Try.prog 3 = .int := by kernel_rfl
@[simp] theorem concT_3 : concT Try.prog 3 = true := by kernel_rfl
@[simp] theorem szT_4 : szT Try.prog 4 = some 1 := by kernel_rfl
@[simp] theorem byT_4 : byT Try.prog 4 = some 1 := by kernel_rfl
@[simp] theorem aggT_4 : aggT Try.prog 4 = some false := by kernel_rfl
@[simp] theorem zeroT_4 : zeroT Try.prog 4 = some [.bool false] := by kernel_rfl
@[simp] theorem eqK_4 : eqK Try.prog 4 = .bool := by kernel_rfl
@[simp] theorem concT_4 : concT Try.prog 4 = true := by kernel_rfl
@[simp] theorem nintT_4 : nintT Try.prog 4 = true := by kernel_rfl
@[simp] theorem szT_5 : szT Try.prog 5 = some 1 := by kernel_rfl
@[simp] theorem byT_5 : byT Try.prog 5 = some 1 := by kernel_rfl
@[simp] theorem aggT_5 : aggT Try.prog 5 = some false := by kernel_rfl
@[simp] theorem zeroT_5 : zeroT Try.prog 5 = some [.int .u8 0] := by kernel_rfl
@[simp] theorem eqK_5 : eqK Try.prog 5 = .int := by kernel_rfl
@[simp] theorem concT_5 : concT Try.prog 5 = true := by kernel_rfl
@[simp] theorem szT_7 : szT Try.prog 7 = some 4 := by kernel_rfl
@[simp] theorem byT_7 : byT Try.prog 7 = some 24 := by kernel_rfl
@[simp] theorem aggT_7 : aggT Try.prog 7 = some true := by kernel_rfl
@[simp] theorem zeroT_7 : zeroT Try.prog 7 = some [.int .i64 0, .int .i64 0, .bool false, .int .u8 0] := by kernel_rfl
@[simp] theorem fieldsT_7_0 : fieldsT Try.prog 7 0 = some (0, 2) := by kernel_rfl
@[simp] theorem fieldO_7_0 : fieldO Try.prog 7 0 = some 0 := by kernel_rfl
@[simp] theorem fieldsT_7_1 : fieldsT Try.prog 7 1 = some (1, 3) := by kernel_rfl
@[simp] theorem fieldO_7_1 : fieldO Try.prog 7 1 = some 1 := by kernel_rfl
@[simp] theorem fieldsT_7_2 : fieldsT Try.prog 7 2 = some (2, 4) := by kernel_rfl
@[simp] theorem fieldO_7_2 : fieldO Try.prog 7 2 = some 2 := by kernel_rfl
@[simp] theorem fieldsT_7_3 : fieldsT Try.prog 7 3 = some (3, 6) := by kernel_rfl
@[simp] theorem fieldO_7_3 : fieldO Try.prog 7 3 = some 3 := by kernel_rfl
@[simp] theorem placesT_7 : placesT Try.prog 7 = some [(0, 1), (1, 1), (2, 1), (3, 1)] := by kernel_rfl
@[simp] theorem arrT_7 : arrT Try.prog 7 = none := by kernel_rfl
@[simp] theorem eqK_7 : eqK Try.prog 7 = .struct [(2, 0), (3, 1), (4, 2), (6, 3)] := by kernel_rfl
@[simp] theorem eqG_7 : Program.eqGuardType Try.prog (Program.depth Try.prog) 7 = false := by kernel_rfl
@[simp] theorem concT_7 : concT Try.prog 7 = true := by kernel_rfl
@[simp] theorem nintT_7 : nintT Try.prog 7 = true := by kernel_rfl
@[simp] theorem szT_9 : szT Try.prog 9 = some 1 := by kernel_rfl
@[simp] theorem byT_9 : byT Try.prog 9 = some 16 := by kernel_rfl
@[simp] theorem aggT_9 : aggT Try.prog 9 = some false := by kernel_rfl
@[simp] theorem zeroT_9 : zeroT Try.prog 9 = some [.str ⟨#[]⟩] := by kernel_rfl
@[simp] theorem isStr_9 : isStr Try.prog 9 = true := by kernel_rfl
@[simp] theorem lenK_9 : lenK Try.prog 9 = .str := by kernel_rfl
@[simp] theorem eqK_9 : eqK Try.prog 9 = .string := by kernel_rfl
@[simp] theorem concT_9 : concT Try.prog 9 = true := by kernel_rfl
@[simp] theorem nintT_9 : nintT Try.prog 9 = true := by kernel_rfl
@[simp] theorem szT_12 : szT Try.prog 12 = some 1 := by kernel_rfl
@[simp] theorem byT_12 : byT Try.prog 12 = some 8 := by kernel_rfl
@[simp] theorem aggT_12 : aggT Try.prog 12 = some false := by kernel_rfl
@[simp] theorem zeroT_12 : zeroT Try.prog 12 = some [.int .u64 0] := by kernel_rfl
@[simp] theorem eqK_12 : eqK Try.prog 12 = .int := by kernel_rfl
@[simp] theorem concT_12 : concT Try.prog 12 = true := by kernel_rfl
@[simp] theorem szT_13 : szT Try.prog 13 = some 2 := by kernel_rfl
@[simp] theorem byT_13 : byT Try.prog 13 = some 24 := by kernel_rfl
@[simp] theorem aggT_13 : aggT Try.prog 13 = some true := by kernel_rfl
@[simp] theorem zeroT_13 : zeroT Try.prog 13 = some [.str ⟨#[]⟩, .int .u64 0] := by kernel_rfl
@[simp] theorem fieldsT_13_0 : fieldsT Try.prog 13 0 = some (0, 9) := by kernel_rfl
@[simp] theorem fieldO_13_0 : fieldO Try.prog 13 0 = some 0 := by kernel_rfl
@[simp] theorem fieldsT_13_1 : fieldsT Try.prog 13 1 = some (1, 12) := by kernel_rfl
@[simp] theorem fieldO_13_1 : fieldO Try.prog 13 1 = some 1 := by kernel_rfl
@[simp] theorem placesT_13 : placesT Try.prog 13 = some [(0, 1), (1, 1)] := by kernel_rfl
@[simp] theorem arrT_13 : arrT Try.prog 13 = none := by kernel_rfl
@[simp] theorem eqG_13 : Program.eqGuardType Try.prog (Program.depth Try.prog) 13 = false := by kernel_rfl
@[simp] theorem concT_13 : concT Try.prog 13 = true := by kernel_rfl
@[simp] theorem nintT_13 : nintT Try.prog 13 = true := by kernel_rfl
@[simp] theorem szT_15 : szT Try.prog 15 = some 1 := by kernel_rfl
@[simp] theorem byT_15 : byT Try.prog 15 = some 8 := by kernel_rfl
@[simp] theorem aggT_15 : aggT Try.prog 15 = some false := by kernel_rfl
@[simp] theorem zeroT_15 : zeroT Try.prog 15 = some [.nilptr] := by kernel_rfl
@[simp] theorem eqK_15 : eqK Try.prog 15 = .pointer := by kernel_rfl
@[simp] theorem concT_15 : concT Try.prog 15 = true := by kernel_rfl
@[simp] theorem nintT_15 : nintT Try.prog 15 = true := by kernel_rfl
@[simp] theorem szT_16 : szT Try.prog 16 = some 1 := by kernel_rfl
@[simp] theorem byT_16 : byT Try.prog 16 = some 8 := by kernel_rfl
@[simp] theorem aggT_16 : aggT Try.prog 16 = some false := by kernel_rfl
@[simp] theorem zeroT_16 : zeroT Try.prog 16 = some [.nilptr] := by kernel_rfl
@[simp] theorem eqK_16 : eqK Try.prog 16 = .pointer := by kernel_rfl
@[simp] theorem concT_16 : concT Try.prog 16 = true := by kernel_rfl
@[simp] theorem nintT_16 : nintT Try.prog 16 = true := by kernel_rfl
@[simp] theorem szT_17 : szT Try.prog 17 = some 1 := by kernel_rfl
@[simp] theorem byT_17 : byT Try.prog 17 = some 8 := by kernel_rfl
@[simp] theorem aggT_17 : aggT Try.prog 17 = some false := by kernel_rfl
@[simp] theorem zeroT_17 : zeroT Try.prog 17 = some [.nilptr] := by kernel_rfl
@[simp] theorem eqK_17 : eqK Try.prog 17 = .pointer := by kernel_rfl
@[simp] theorem concT_17 : concT Try.prog 17 = true := by kernel_rfl
@[simp] theorem nintT_17 : nintT Try.prog 17 = true := by kernel_rfl
@[simp] theorem szT_18 : szT Try.prog 18 = some 1 := by kernel_rfl
@[simp] theorem byT_18 : byT Try.prog 18 = some 8 := by kernel_rfl
@[simp] theorem aggT_18 : aggT Try.prog 18 = some true := by kernel_rfl
@[simp] theorem zeroT_18 : zeroT Try.prog 18 = some [.nilptr] := by kernel_rfl
@[simp] theorem fieldsT_18_0 : fieldsT Try.prog 18 0 = some (0, 17) := by kernel_rfl
@[simp] theorem fieldO_18_0 : fieldO Try.prog 18 0 = some 0 := by kernel_rfl
@[simp] theorem placesT_18 : placesT Try.prog 18 = some [(0, 1)] := by kernel_rfl
@[simp] theorem arrT_18 : arrT Try.prog 18 = none := by kernel_rfl
@[simp] theorem eqG_18 : Program.eqGuardType Try.prog (Program.depth Try.prog) 18 = false := by kernel_rfl
@[simp] theorem concT_18 : concT Try.prog 18 = true := by kernel_rfl
@[simp] theorem nintT_18 : nintT Try.prog 18 = true := by kernel_rfl
@[simp] theorem szT_20 : szT Try.prog 20 = some 1 := by kernel_rfl
@[simp] theorem byT_20 : byT Try.prog 20 = some 16 := by kernel_rfl
@[simp] theorem aggT_20 : aggT Try.prog 20 = some false := by kernel_rfl
@[simp] theorem zeroT_20 : zeroT Try.prog 20 = some [.nilIface] := by kernel_rfl
@[simp] theorem eqK_20 : eqK Try.prog 20 = .iface := by kernel_rfl
@[simp] theorem nintT_20 : nintT Try.prog 20 = true := by kernel_rfl
@[simp] theorem szT_21 : szT Try.prog 21 = some 1 := by kernel_rfl
@[simp] theorem byT_21 : byT Try.prog 21 = some 4 := by kernel_rfl
@[simp] theorem aggT_21 : aggT Try.prog 21 = some false := by kernel_rfl
@[simp] theorem zeroT_21 : zeroT Try.prog 21 = some [.int .i32 0] := by kernel_rfl
@[simp] theorem eqK_21 : eqK Try.prog 21 = .int := by kernel_rfl
@[simp] theorem concT_21 : concT Try.prog 21 = true := by kernel_rfl
@[simp] theorem szT_22 : szT Try.prog 22 = some 1 := by kernel_rfl
@[simp] theorem byT_22 : byT Try.prog 22 = some 24 := by kernel_rfl
@[simp] theorem aggT_22 : aggT Try.prog 22 = some false := by kernel_rfl
@[simp] theorem zeroT_22 : zeroT Try.prog 22 = some [.nilslice] := by kernel_rfl
@[simp] theorem sliT_22 : sliT Try.prog 22 = some 33 := by kernel_rfl
@[simp] theorem lenK_22 : lenK Try.prog 22 = .slice := by kernel_rfl
@[simp] theorem eqK_22 : eqK Try.prog 22 = .slice := by kernel_rfl
@[simp] theorem arrT_22 : arrT Try.prog 22 = none := by kernel_rfl
@[simp] theorem concT_22 : concT Try.prog 22 = true := by kernel_rfl
@[simp] theorem nintT_22 : nintT Try.prog 22 = true := by kernel_rfl
@[simp] theorem szT_23 : szT Try.prog 23 = some 1 := by kernel_rfl
@[simp] theorem byT_23 : byT Try.prog 23 = some 24 := by kernel_rfl
@[simp] theorem aggT_23 : aggT Try.prog 23 = some false := by kernel_rfl
@[simp] theorem zeroT_23 : zeroT Try.prog 23 = some [.nilslice] := by kernel_rfl
@[simp] theorem sliT_23 : sliT Try.prog 23 = some 4 := by kernel_rfl
@[simp] theorem lenK_23 : lenK Try.prog 23 = .slice := by kernel_rfl
@[simp] theorem eqK_23 : eqK Try.prog 23 = .slice := by kernel_rfl
@[simp] theorem arrT_23 : arrT Try.prog 23 = none := by kernel_rfl
@[simp] theorem concT_23 : concT Try.prog 23 = true := by kernel_rfl
@[simp] theorem nintT_23 : nintT Try.prog 23 = true := by kernel_rfl
@[simp] theorem szT_24 : szT Try.prog 24 = some 1 := by kernel_rfl
@[simp] theorem byT_24 : byT Try.prog 24 = some 8 := by kernel_rfl
@[simp] theorem aggT_24 : aggT Try.prog 24 = some false := by kernel_rfl
@[simp] theorem zeroT_24 : zeroT Try.prog 24 = some [.nilFunc] := by kernel_rfl
@[simp] theorem eqK_24 : eqK Try.prog 24 = .func := by kernel_rfl
@[simp] theorem concT_24 : concT Try.prog 24 = true := by kernel_rfl
@[simp] theorem nintT_24 : nintT Try.prog 24 = true := by kernel_rfl
@[simp] theorem szT_25 : szT Try.prog 25 = some 1 := by kernel_rfl
@[simp] theorem byT_25 : byT Try.prog 25 = some 8 := by kernel_rfl
@[simp] theorem aggT_25 : aggT Try.prog 25 = some false := by kernel_rfl
@[simp] theorem zeroT_25 : zeroT Try.prog 25 = some [.nilFunc] := by kernel_rfl
@[simp] theorem eqK_25 : eqK Try.prog 25 = .func := by kernel_rfl
@[simp] theorem concT_25 : concT Try.prog 25 = true := by kernel_rfl
@[simp] theorem nintT_25 : nintT Try.prog 25 = true := by kernel_rfl
@[simp] theorem szT_26 : szT Try.prog 26 = some 1 := by kernel_rfl
@[simp] theorem byT_26 : byT Try.prog 26 = some 8 := by kernel_rfl
@[simp] theorem aggT_26 : aggT Try.prog 26 = some false := by kernel_rfl
@[simp] theorem zeroT_26 : zeroT Try.prog 26 = some [.nilptr] := by kernel_rfl
@[simp] theorem eqK_26 : eqK Try.prog 26 = .pointer := by kernel_rfl
@[simp] theorem concT_26 : concT Try.prog 26 = true := by kernel_rfl
@[simp] theorem nintT_26 : nintT Try.prog 26 = true := by kernel_rfl
@[simp] theorem szT_27 : szT Try.prog 27 = some 1 := by kernel_rfl
@[simp] theorem byT_27 : byT Try.prog 27 = some 8 := by kernel_rfl
@[simp] theorem aggT_27 : aggT Try.prog 27 = some false := by kernel_rfl
@[simp] theorem zeroT_27 : zeroT Try.prog 27 = some [.int .i64 0] := by kernel_rfl
@[simp] theorem eqK_27 : eqK Try.prog 27 = .int := by kernel_rfl
@[simp] theorem concT_27 : concT Try.prog 27 = true := by kernel_rfl
@[simp] theorem szT_29 : szT Try.prog 29 = some 1 := by kernel_rfl
@[simp] theorem byT_29 : byT Try.prog 29 = some 8 := by kernel_rfl
@[simp] theorem aggT_29 : aggT Try.prog 29 = some false := by kernel_rfl
@[simp] theorem zeroT_29 : zeroT Try.prog 29 = some [.nilFunc] := by kernel_rfl
@[simp] theorem eqK_29 : eqK Try.prog 29 = .func := by kernel_rfl
@[simp] theorem concT_29 : concT Try.prog 29 = true := by kernel_rfl
@[simp] theorem nintT_29 : nintT Try.prog 29 = true := by kernel_rfl
@[simp] theorem szT_30 : szT Try.prog 30 = some 1 := by kernel_rfl
@[simp] theorem byT_30 : byT Try.prog 30 = some 8 := by kernel_rfl
@[simp] theorem aggT_30 : aggT Try.prog 30 = some false := by kernel_rfl
@[simp] theorem zeroT_30 : zeroT Try.prog 30 = some [.nilFunc] := by kernel_rfl
@[simp] theorem eqK_30 : eqK Try.prog 30 = .func := by kernel_rfl
@[simp] theorem concT_30 : concT Try.prog 30 = true := by kernel_rfl
@[simp] theorem nintT_30 : nintT Try.prog 30 = true := by kernel_rfl
@[simp] theorem szT_31 : szT Try.prog 31 = some 1 := by kernel_rfl
@[simp] theorem byT_31 : byT Try.prog 31 = some 8 := by kernel_rfl
@[simp] theorem aggT_31 : aggT Try.prog 31 = some false := by kernel_rfl
@[simp] theorem zeroT_31 : zeroT Try.prog 31 = some [.nilFunc] := by kernel_rfl
@[simp] theorem eqK_31 : eqK Try.prog 31 = .func := by kernel_rfl
@[simp] theorem concT_31 : concT Try.prog 31 = true := by kernel_rfl
@[simp] theorem nintT_31 : nintT Try.prog 31 = true := by kernel_rfl
@[simp] theorem szT_32 : szT Try.prog 32 = some 7 := by kernel_rfl
@[simp] theorem byT_32 : byT Try.prog 32 = some 56 := by kernel_rfl
@[simp] theorem aggT_32 : aggT Try.prog 32 = some true := by kernel_rfl
@[simp] theorem zeroT_32 : zeroT Try.prog 32 = some [.int .i64 0, .int .i64 0, .int .i64 0, .int .u8 0, .int .i64 0, .int .i64 0, .int .u8 0] := by kernel_rfl
@[simp] theorem fieldsT_32_0 : fieldsT Try.prog 32 0 = some (0, 3) := by kernel_rfl
@[simp] theorem fieldO_32_0 : fieldO Try.prog 32 0 = some 0 := by kernel_rfl
@[simp] theorem fieldsT_32_1 : fieldsT Try.prog 32 1 = some (1, 2) := by kernel_rfl
@[simp] theorem fieldO_32_1 : fieldO Try.prog 32 1 = some 1 := by kernel_rfl
@[simp] theorem fieldsT_32_2 : fieldsT Try.prog 32 2 = some (2, 3) := by kernel_rfl
@[simp] theorem fieldO_32_2 : fieldO Try.prog 32 2 = some 2 := by kernel_rfl
@[simp] theorem fieldsT_32_3 : fieldsT Try.prog 32 3 = some (3, 5) := by kernel_rfl
@[simp] theorem fieldO_32_3 : fieldO Try.prog 32 3 = some 3 := by kernel_rfl
@[simp] theorem fieldsT_32_4 : fieldsT Try.prog 32 4 = some (4, 3) := by kernel_rfl
@[simp] theorem fieldO_32_4 : fieldO Try.prog 32 4 = some 4 := by kernel_rfl
@[simp] theorem fieldsT_32_5 : fieldsT Try.prog 32 5 = some (5, 3) := by kernel_rfl
@[simp] theorem fieldO_32_5 : fieldO Try.prog 32 5 = some 5 := by kernel_rfl
@[simp] theorem fieldsT_32_6 : fieldsT Try.prog 32 6 = some (6, 5) := by kernel_rfl
@[simp] theorem fieldO_32_6 : fieldO Try.prog 32 6 = some 6 := by kernel_rfl
@[simp] theorem placesT_32 : placesT Try.prog 32 = some [(0, 1), (1, 1), (2, 1), (3, 1), (4, 1), (5, 1), (6, 1)] := by kernel_rfl
@[simp] theorem arrT_32 : arrT Try.prog 32 = none := by kernel_rfl
@[simp] theorem eqK_32 : eqK Try.prog 32 = .struct [(3, 0), (2, 1), (3, 2), (5, 3), (3, 4), (3, 5), (5, 6)] := by kernel_rfl
@[simp] theorem eqG_32 : Program.eqGuardType Try.prog (Program.depth Try.prog) 32 = false := by kernel_rfl
@[simp] theorem concT_32 : concT Try.prog 32 = true := by kernel_rfl
@[simp] theorem nintT_32 : nintT Try.prog 32 = true := by kernel_rfl
@[simp] theorem szT_33 : szT Try.prog 33 = some 7 := by kernel_rfl
@[simp] theorem byT_33 : byT Try.prog 33 = some 56 := by kernel_rfl
@[simp] theorem aggT_33 : aggT Try.prog 33 = some true := by kernel_rfl
@[simp] theorem zeroT_33 : zeroT Try.prog 33 = some [.int .i64 0, .int .i64 0, .int .i64 0, .int .u8 0, .int .i64 0, .int .i64 0, .int .u8 0] := by kernel_rfl
@[simp] theorem fieldsT_33_0 : fieldsT Try.prog 33 0 = some (0, 3) := by kernel_rfl
@[simp] theorem fieldO_33_0 : fieldO Try.prog 33 0 = some 0 := by kernel_rfl
@[simp] theorem fieldsT_33_1 : fieldsT Try.prog 33 1 = some (1, 2) := by kernel_rfl
@[simp] theorem fieldO_33_1 : fieldO Try.prog 33 1 = some 1 := by kernel_rfl
@[simp] theorem fieldsT_33_2 : fieldsT Try.prog 33 2 = some (2, 3) := by kernel_rfl
@[simp] theorem fieldO_33_2 : fieldO Try.prog 33 2 = some 2 := by kernel_rfl
@[simp] theorem fieldsT_33_3 : fieldsT Try.prog 33 3 = some (3, 5) := by kernel_rfl
@[simp] theorem fieldO_33_3 : fieldO Try.prog 33 3 = some 3 := by kernel_rfl
@[simp] theorem fieldsT_33_4 : fieldsT Try.prog 33 4 = some (4, 3) := by kernel_rfl
@[simp] theorem fieldO_33_4 : fieldO Try.prog 33 4 = some 4 := by kernel_rfl
@[simp] theorem fieldsT_33_5 : fieldsT Try.prog 33 5 = some (5, 3) := by kernel_rfl
@[simp] theorem fieldO_33_5 : fieldO Try.prog 33 5 = some 5 := by kernel_rfl
@[simp] theorem fieldsT_33_6 : fieldsT Try.prog 33 6 = some (6, 5) := by kernel_rfl
@[simp] theorem fieldO_33_6 : fieldO Try.prog 33 6 = some 6 := by kernel_rfl
@[simp] theorem placesT_33 : placesT Try.prog 33 = some [(0, 1), (1, 1), (2, 1), (3, 1), (4, 1), (5, 1), (6, 1)] := by kernel_rfl
@[simp] theorem arrT_33 : arrT Try.prog 33 = none := by kernel_rfl
@[simp] theorem eqK_33 : eqK Try.prog 33 = .struct [(3, 0), (2, 1), (3, 2), (5, 3), (3, 4), (3, 5), (5, 6)] := by kernel_rfl
@[simp] theorem eqG_33 : Program.eqGuardType Try.prog (Program.depth Try.prog) 33 = false := by kernel_rfl
@[simp] theorem concT_33 : concT Try.prog 33 = true := by kernel_rfl
@[simp] theorem nintT_33 : nintT Try.prog 33 = true := by kernel_rfl
@[simp] theorem szT_35 : szT Try.prog 35 = some 1 := by kernel_rfl
@[simp] theorem byT_35 : byT Try.prog 35 = some 8 := by kernel_rfl
@[simp] theorem aggT_35 : aggT Try.prog 35 = some false := by kernel_rfl
@[simp] theorem zeroT_35 : zeroT Try.prog 35 = some [.nilFunc] := by kernel_rfl
@[simp] theorem eqK_35 : eqK Try.prog 35 = .func := by kernel_rfl
@[simp] theorem concT_35 : concT Try.prog 35 = true := by kernel_rfl
@[simp] theorem nintT_35 : nintT Try.prog 35 = true := by kernel_rfl
@[simp] theorem szT_36 : szT Try.prog 36 = some 1 := by kernel_rfl
@[simp] theorem byT_36 : byT Try.prog 36 = some 8 := by kernel_rfl
@[simp] theorem aggT_36 : aggT Try.prog 36 = some false := by kernel_rfl
@[simp] theorem zeroT_36 : zeroT Try.prog 36 = some [.nilFunc] := by kernel_rfl
@[simp] theorem eqK_36 : eqK Try.prog 36 = .func := by kernel_rfl
@[simp] theorem concT_36 : concT Try.prog 36 = true := by kernel_rfl
@[simp] theorem nintT_36 : nintT Try.prog 36 = true := by kernel_rfl
@[simp] theorem szT_37 : szT Try.prog 37 = some 1 := by kernel_rfl
@[simp] theorem byT_37 : byT Try.prog 37 = some 8 := by kernel_rfl
@[simp] theorem aggT_37 : aggT Try.prog 37 = some false := by kernel_rfl
@[simp] theorem zeroT_37 : zeroT Try.prog 37 = some [.nilFunc] := by kernel_rfl
@[simp] theorem eqK_37 : eqK Try.prog 37 = .func := by kernel_rfl
@[simp] theorem concT_37 : concT Try.prog 37 = true := by kernel_rfl
@[simp] theorem nintT_37 : nintT Try.prog 37 = true := by kernel_rfl
@[simp] theorem szT_38 : szT Try.prog 38 = some 1 := by kernel_rfl
@[simp] theorem byT_38 : byT Try.prog 38 = some 8 := by kernel_rfl
@[simp] theorem aggT_38 : aggT Try.prog 38 = some false := by kernel_rfl
@[simp] theorem zeroT_38 : zeroT Try.prog 38 = some [.nilFunc] := by kernel_rfl
@[simp] theorem eqK_38 : eqK Try.prog 38 = .func := by kernel_rfl
@[simp] theorem concT_38 : concT Try.prog 38 = true := by kernel_rfl
@[simp] theorem nintT_38 : nintT Try.prog 38 = true := by kernel_rfl
@[simp] theorem szT_39 : szT Try.prog 39 = some 1 := by kernel_rfl
@[simp] theorem byT_39 : byT Try.prog 39 = some 8 := by kernel_rfl
@[simp] theorem aggT_39 : aggT Try.prog 39 = some false := by kernel_rfl
@[simp] theorem zeroT_39 : zeroT Try.prog 39 = some [.nilFunc] := by kernel_rfl
@[simp] theorem eqK_39 : eqK Try.prog 39 = .func := by kernel_rfl
@[simp] theorem concT_39 : concT Try.prog 39 = true := by kernel_rfl
@[simp] theorem nintT_39 : nintT Try.prog 39 = true := by kernel_rfl
@[simp] theorem szT_40 : szT Try.prog 40 = some 1 := by kernel_rfl
@[simp] theorem byT_40 : byT Try.prog 40 = some 8 := by kernel_rfl
@[simp] theorem aggT_40 : aggT Try.prog 40 = some false := by kernel_rfl
@[simp] theorem zeroT_40 : zeroT Try.prog 40 = some [.nilFunc] := by kernel_rfl
@[simp] theorem eqK_40 : eqK Try.prog 40 = .func := by kernel_rfl
@[simp] theorem concT_40 : concT Try.prog 40 = true := by kernel_rfl
@[simp] theorem nintT_40 : nintT Try.prog 40 = true := by kernel_rfl
@[simp] theorem szT_41 : szT Try.prog 41 = some 5 := by kernel_rfl
@[simp] theorem byT_41 : byT Try.prog 41 = some 56 := by kernel_rfl
@[simp] theorem aggT_41 : aggT Try.prog 41 = some true := by kernel_rfl
@[simp] theorem zeroT_41 : zeroT Try.prog 41 = some [.nilslice, .int .i64 0, .int .i64 0, .int .i64 0, .bool false] := by kernel_rfl
@[simp] theorem fieldsT_41_0 : fieldsT Try.prog 41 0 = some (0, 22) := by kernel_rfl
@[simp] theorem fieldO_41_0 : fieldO Try.prog 41 0 = some 0 := by kernel_rfl
@[simp] theorem fieldsT_41_1 : fieldsT Try.prog 41 1 = some (1, 3) := by kernel_rfl
@[simp] theorem fieldO_41_1 : fieldO Try.prog 41 1 = some 1 := by kernel_rfl
@[simp] theorem fieldsT_41_2 : fieldsT Try.prog 41 2 = some (2, 3) := by kernel_rfl
@[simp] theorem fieldO_41_2 : fieldO Try.prog 41 2 = some 2 := by kernel_rfl
@[simp] theorem fieldsT_41_3 : fieldsT Try.prog 41 3 = some (3, 2) := by kernel_rfl
@[simp] theorem fieldO_41_3 : fieldO Try.prog 41 3 = some 3 := by kernel_rfl
@[simp] theorem fieldsT_41_4 : fieldsT Try.prog 41 4 = some (4, 4) := by kernel_rfl
@[simp] theorem fieldO_41_4 : fieldO Try.prog 41 4 = some 4 := by kernel_rfl
@[simp] theorem placesT_41 : placesT Try.prog 41 = some [(0, 1), (1, 1), (2, 1), (3, 1), (4, 1)] := by kernel_rfl
@[simp] theorem arrT_41 : arrT Try.prog 41 = none := by kernel_rfl
@[simp] theorem eqK_41 : eqK Try.prog 41 = .struct [(22, 0), (3, 1), (3, 2), (2, 3), (4, 4)] := by kernel_rfl
@[simp] theorem eqG_41 : Program.eqGuardType Try.prog (Program.depth Try.prog) 41 = false := by kernel_rfl
@[simp] theorem concT_41 : concT Try.prog 41 = true := by kernel_rfl
@[simp] theorem nintT_41 : nintT Try.prog 41 = true := by kernel_rfl
@[simp] theorem szT_42 : szT Try.prog 42 = some 5 := by kernel_rfl
@[simp] theorem byT_42 : byT Try.prog 42 = some 56 := by kernel_rfl
@[simp] theorem aggT_42 : aggT Try.prog 42 = some true := by kernel_rfl
@[simp] theorem zeroT_42 : zeroT Try.prog 42 = some [.nilslice, .int .i64 0, .int .i64 0, .int .i64 0, .bool false] := by kernel_rfl
@[simp] theorem fieldsT_42_0 : fieldsT Try.prog 42 0 = some (0, 22) := by kernel_rfl
@[simp] theorem fieldO_42_0 : fieldO Try.prog 42 0 = some 0 := by kernel_rfl
@[simp] theorem fieldsT_42_1 : fieldsT Try.prog 42 1 = some (1, 3) := by kernel_rfl
@[simp] theorem fieldO_42_1 : fieldO Try.prog 42 1 = some 1 := by kernel_rfl
@[simp] theorem fieldsT_42_2 : fieldsT Try.prog 42 2 = some (2, 3) := by kernel_rfl
@[simp] theorem fieldO_42_2 : fieldO Try.prog 42 2 = some 2 := by kernel_rfl
@[simp] theorem fieldsT_42_3 : fieldsT Try.prog 42 3 = some (3, 2) := by kernel_rfl
@[simp] theorem fieldO_42_3 : fieldO Try.prog 42 3 = some 3 := by kernel_rfl
@[simp] theorem fieldsT_42_4 : fieldsT Try.prog 42 4 = some (4, 4) := by kernel_rfl
@[simp] theorem fieldO_42_4 : fieldO Try.prog 42 4 = some 4 := by kernel_rfl
@[simp] theorem placesT_42 : placesT Try.prog 42 = some [(0, 1), (1, 1), (2, 1), (3, 1), (4, 1)] := by kernel_rfl
@[simp] theorem arrT_42 : arrT Try.prog 42 = none := by kernel_rfl
@[simp] theorem eqK_42 : eqK Try.prog 42 = .struct [(22, 0), (3, 1), (3, 2), (2, 3), (4, 4)] := by kernel_rfl
@[simp] theorem eqG_42 : Program.eqGuardType Try.prog (Program.depth Try.prog) 42 = false := by kernel_rfl
@[simp] theorem concT_42 : concT Try.prog 42 = true := by kernel_rfl
@[simp] theorem nintT_42 : nintT Try.prog 42 = true := by kernel_rfl
@[simp] theorem szT_43 : szT Try.prog 43 = some 1 := by kernel_rfl
@[simp] theorem byT_43 : byT Try.prog 43 = some 8 := by kernel_rfl
@[simp] theorem aggT_43 : aggT Try.prog 43 = some false := by kernel_rfl
@[simp] theorem zeroT_43 : zeroT Try.prog 43 = some [.nilFunc] := by kernel_rfl
@[simp] theorem eqK_43 : eqK Try.prog 43 = .func := by kernel_rfl
@[simp] theorem concT_43 : concT Try.prog 43 = true := by kernel_rfl
@[simp] theorem nintT_43 : nintT Try.prog 43 = true := by kernel_rfl
@[simp] theorem szT_44 : szT Try.prog 44 = some 7 := by kernel_rfl
@[simp] theorem byT_44 : byT Try.prog 44 = some 56 := by kernel_rfl
@[simp] theorem aggT_44 : aggT Try.prog 44 = some true := by kernel_rfl
@[simp] theorem zeroT_44 : zeroT Try.prog 44 = some [.nilFunc, .nilFunc, .nilFunc, .nilFunc, .nilFunc, .nilFunc, .nilFunc] := by kernel_rfl
@[simp] theorem arrT_44 : arrT Try.prog 44 = some (7, 43) := by kernel_rfl
@[simp] theorem eqK_44 : eqK Try.prog 44 = .array 7 43 1 := by kernel_rfl
@[simp] theorem lenK_44 : lenK Try.prog 44 = .arr 7 := by kernel_rfl
@[simp] theorem eqG_44 : Program.eqGuardType Try.prog (Program.depth Try.prog) 44 = false := by kernel_rfl
@[simp] theorem concT_44 : concT Try.prog 44 = true := by kernel_rfl
@[simp] theorem nintT_44 : nintT Try.prog 44 = true := by kernel_rfl
@[simp] theorem szT_45 : szT Try.prog 45 = some 1 := by kernel_rfl
@[simp] theorem byT_45 : byT Try.prog 45 = some 8 := by kernel_rfl
@[simp] theorem aggT_45 : aggT Try.prog 45 = some false := by kernel_rfl
@[simp] theorem zeroT_45 : zeroT Try.prog 45 = some [.nilFunc] := by kernel_rfl
@[simp] theorem eqK_45 : eqK Try.prog 45 = .func := by kernel_rfl
@[simp] theorem concT_45 : concT Try.prog 45 = true := by kernel_rfl
@[simp] theorem nintT_45 : nintT Try.prog 45 = true := by kernel_rfl
@[simp] theorem szT_47 : szT Try.prog 47 = some 1 := by kernel_rfl
@[simp] theorem byT_47 : byT Try.prog 47 = some 8 := by kernel_rfl
@[simp] theorem aggT_47 : aggT Try.prog 47 = some false := by kernel_rfl
@[simp] theorem zeroT_47 : zeroT Try.prog 47 = some [.nilFunc] := by kernel_rfl
@[simp] theorem eqK_47 : eqK Try.prog 47 = .func := by kernel_rfl
@[simp] theorem concT_47 : concT Try.prog 47 = true := by kernel_rfl
@[simp] theorem nintT_47 : nintT Try.prog 47 = true := by kernel_rfl
@[simp] theorem szT_48 : szT Try.prog 48 = some 1 := by kernel_rfl
@[simp] theorem byT_48 : byT Try.prog 48 = some 8 := by kernel_rfl
@[simp] theorem aggT_48 : aggT Try.prog 48 = some false := by kernel_rfl
@[simp] theorem zeroT_48 : zeroT Try.prog 48 = some [.nilFunc] := by kernel_rfl
@[simp] theorem eqK_48 : eqK Try.prog 48 = .func := by kernel_rfl
@[simp] theorem concT_48 : concT Try.prog 48 = true := by kernel_rfl
@[simp] theorem nintT_48 : nintT Try.prog 48 = true := by kernel_rfl
@[simp] theorem szT_49 : szT Try.prog 49 = some 4 := by kernel_rfl
@[simp] theorem byT_49 : byT Try.prog 49 = some 40 := by kernel_rfl
@[simp] theorem aggT_49 : aggT Try.prog 49 = some true := by kernel_rfl
@[simp] theorem zeroT_49 : zeroT Try.prog 49 = some [.nilptr, .nilptr, .nilptr, .str ⟨#[]⟩] := by kernel_rfl
@[simp] theorem fieldsT_49_0 : fieldsT Try.prog 49 0 = some (0, 17) := by kernel_rfl
@[simp] theorem fieldO_49_0 : fieldO Try.prog 49 0 = some 0 := by kernel_rfl
@[simp] theorem fieldsT_49_1 : fieldsT Try.prog 49 1 = some (1, 17) := by kernel_rfl
@[simp] theorem fieldO_49_1 : fieldO Try.prog 49 1 = some 1 := by kernel_rfl
@[simp] theorem fieldsT_49_2 : fieldsT Try.prog 49 2 = some (2, 17) := by kernel_rfl
@[simp] theorem fieldO_49_2 : fieldO Try.prog 49 2 = some 2 := by kernel_rfl
@[simp] theorem fieldsT_49_3 : fieldsT Try.prog 49 3 = some (3, 9) := by kernel_rfl
@[simp] theorem fieldO_49_3 : fieldO Try.prog 49 3 = some 3 := by kernel_rfl
@[simp] theorem placesT_49 : placesT Try.prog 49 = some [(0, 1), (1, 1), (2, 1), (3, 1)] := by kernel_rfl
@[simp] theorem arrT_49 : arrT Try.prog 49 = none := by kernel_rfl
@[simp] theorem eqG_49 : Program.eqGuardType Try.prog (Program.depth Try.prog) 49 = false := by kernel_rfl
@[simp] theorem concT_49 : concT Try.prog 49 = true := by kernel_rfl
@[simp] theorem nintT_49 : nintT Try.prog 49 = true := by kernel_rfl
@[simp] theorem szT_51 : szT Try.prog 51 = some 0 := by kernel_rfl
@[simp] theorem byT_51 : byT Try.prog 51 = some 0 := by kernel_rfl
@[simp] theorem aggT_51 : aggT Try.prog 51 = some true := by kernel_rfl
@[simp] theorem zeroT_51 : zeroT Try.prog 51 = some [] := by kernel_rfl
@[simp] theorem arrT_51 : arrT Try.prog 51 = some (0, 16) := by kernel_rfl
@[simp] theorem eqK_51 : eqK Try.prog 51 = .array 0 16 1 := by kernel_rfl
@[simp] theorem lenK_51 : lenK Try.prog 51 = .arr 0 := by kernel_rfl
@[simp] theorem eqG_51 : Program.eqGuardType Try.prog (Program.depth Try.prog) 51 = false := by kernel_rfl
@[simp] theorem concT_51 : concT Try.prog 51 = true := by kernel_rfl
@[simp] theorem nintT_51 : nintT Try.prog 51 = true := by kernel_rfl
@[simp] theorem szT_52 : szT Try.prog 52 = some 0 := by kernel_rfl
@[simp] theorem byT_52 : byT Try.prog 52 = some 0 := by kernel_rfl
@[simp] theorem aggT_52 : aggT Try.prog 52 = some true := by kernel_rfl
@[simp] theorem zeroT_52 : zeroT Try.prog 52 = some [] := by kernel_rfl
@[simp] theorem fieldsT_52_0 : fieldsT Try.prog 52 0 = some (0, 51) := by kernel_rfl
@[simp] theorem placesT_52 : placesT Try.prog 52 = some [(0, 0)] := by kernel_rfl
@[simp] theorem arrT_52 : arrT Try.prog 52 = none := by kernel_rfl
@[simp] theorem eqG_52 : Program.eqGuardType Try.prog (Program.depth Try.prog) 52 = false := by kernel_rfl
@[simp] theorem concT_52 : concT Try.prog 52 = true := by kernel_rfl
@[simp] theorem nintT_52 : nintT Try.prog 52 = true := by kernel_rfl
@[simp] theorem szT_54 : szT Try.prog 54 = some 1 := by kernel_rfl
@[simp] theorem byT_54 : byT Try.prog 54 = some 4 := by kernel_rfl
@[simp] theorem aggT_54 : aggT Try.prog 54 = some false := by kernel_rfl
@[simp] theorem zeroT_54 : zeroT Try.prog 54 = some [.int .u32 0] := by kernel_rfl
@[simp] theorem eqK_54 : eqK Try.prog 54 = .int := by kernel_rfl
@[simp] theorem concT_54 : concT Try.prog 54 = true := by kernel_rfl
@[simp] theorem szT_57 : szT Try.prog 57 = some 1 := by kernel_rfl
@[simp] theorem byT_57 : byT Try.prog 57 = some 8 := by kernel_rfl
@[simp] theorem aggT_57 : aggT Try.prog 57 = some false := by kernel_rfl
@[simp] theorem zeroT_57 : zeroT Try.prog 57 = some [.nilFunc] := by kernel_rfl
@[simp] theorem eqK_57 : eqK Try.prog 57 = .func := by kernel_rfl
@[simp] theorem concT_57 : concT Try.prog 57 = true := by kernel_rfl
@[simp] theorem nintT_57 : nintT Try.prog 57 = true := by kernel_rfl
@[simp] theorem szT_58 : szT Try.prog 58 = some 1 := by kernel_rfl
@[simp] theorem byT_58 : byT Try.prog 58 = some 8 := by kernel_rfl
@[simp] theorem aggT_58 : aggT Try.prog 58 = some false := by kernel_rfl
@[simp] theorem zeroT_58 : zeroT Try.prog 58 = some [.nilptr] := by kernel_rfl
@[simp] theorem eqK_58 : eqK Try.prog 58 = .pointer := by kernel_rfl
@[simp] theorem concT_58 : concT Try.prog 58 = true := by kernel_rfl
@[simp] theorem nintT_58 : nintT Try.prog 58 = true := by kernel_rfl
@[simp] theorem szT_61 : szT Try.prog 61 = some 11 := by kernel_rfl
@[simp] theorem byT_61 : byT Try.prog 61 = some 48 := by kernel_rfl
@[simp] theorem aggT_61 : aggT Try.prog 61 = some true := by kernel_rfl
@[simp] theorem zeroT_61 : zeroT Try.prog 61 = some [.int .u64 0, .int .u64 0, .int .u32 0, .int .u8 0, .int .u8 0, .int .u8 0, .int .u8 0, .nilFunc, .nilptr, .int .i32 0, .int .i32 0] := by kernel_rfl
@[simp] theorem fieldsT_61_0 : fieldsT Try.prog 61 0 = some (0, 12) := by kernel_rfl
@[simp] theorem fieldO_61_0 : fieldO Try.prog 61 0 = some 0 := by kernel_rfl
@[simp] theorem fieldsT_61_1 : fieldsT Try.prog 61 1 = some (1, 12) := by kernel_rfl
@[simp] theorem fieldO_61_1 : fieldO Try.prog 61 1 = some 1 := by kernel_rfl
@[simp] theorem fieldsT_61_2 : fieldsT Try.prog 61 2 = some (2, 54) := by kernel_rfl
@[simp] theorem fieldO_61_2 : fieldO Try.prog 61 2 = some 2 := by kernel_rfl
@[simp] theorem fieldsT_61_3 : fieldsT Try.prog 61 3 = some (3, 55) := by kernel_rfl
@[simp] theorem fieldO_61_3 : fieldO Try.prog 61 3 = some 3 := by kernel_rfl
@[simp] theorem fieldsT_61_4 : fieldsT Try.prog 61 4 = some (4, 5) := by kernel_rfl
@[simp] theorem fieldO_61_4 : fieldO Try.prog 61 4 = some 4 := by kernel_rfl
@[simp] theorem fieldsT_61_5 : fieldsT Try.prog 61 5 = some (5, 5) := by kernel_rfl
@[simp] theorem fieldO_61_5 : fieldO Try.prog 61 5 = some 5 := by kernel_rfl
@[simp] theorem fieldsT_61_6 : fieldsT Try.prog 61 6 = some (6, 56) := by kernel_rfl
@[simp] theorem fieldO_61_6 : fieldO Try.prog 61 6 = some 6 := by kernel_rfl
@[simp] theorem fieldsT_61_7 : fieldsT Try.prog 61 7 = some (7, 57) := by kernel_rfl
@[simp] theorem fieldO_61_7 : fieldO Try.prog 61 7 = some 7 := by kernel_rfl
@[simp] theorem fieldsT_61_8 : fieldsT Try.prog 61 8 = some (8, 58) := by kernel_rfl
@[simp] theorem fieldO_61_8 : fieldO Try.prog 61 8 = some 8 := by kernel_rfl
@[simp] theorem fieldsT_61_9 : fieldsT Try.prog 61 9 = some (9, 59) := by kernel_rfl
@[simp] theorem fieldO_61_9 : fieldO Try.prog 61 9 = some 9 := by kernel_rfl
@[simp] theorem fieldsT_61_10 : fieldsT Try.prog 61 10 = some (10, 60) := by kernel_rfl
@[simp] theorem fieldO_61_10 : fieldO Try.prog 61 10 = some 10 := by kernel_rfl
@[simp] theorem placesT_61 : placesT Try.prog 61 = some [(0, 1), (1, 1), (2, 1), (3, 1), (4, 1), (5, 1), (6, 1), (7, 1), (8, 1), (9, 1), (10, 1)] := by kernel_rfl
@[simp] theorem arrT_61 : arrT Try.prog 61 = none := by kernel_rfl
@[simp] theorem eqG_61 : Program.eqGuardType Try.prog (Program.depth Try.prog) 61 = false := by kernel_rfl
@[simp] theorem concT_61 : concT Try.prog 61 = true := by kernel_rfl
@[simp] theorem nintT_61 : nintT Try.prog 61 = true := by kernel_rfl
@[simp] theorem szT_63 : szT Try.prog 63 = some 1 := by kernel_rfl
@[simp] theorem byT_63 : byT Try.prog 63 = some 8 := by kernel_rfl
@[simp] theorem aggT_63 : aggT Try.prog 63 = some false := by kernel_rfl
@[simp] theorem zeroT_63 : zeroT Try.prog 63 = some [.nilptr] := by kernel_rfl
@[simp] theorem concT_63 : concT Try.prog 63 = true := by kernel_rfl
@[simp] theorem nintT_63 : nintT Try.prog 63 = true := by kernel_rfl
@[simp] theorem callT_3 : callT Try.prog 3 = true := by kernel_rfl
@[simp] theorem callT_4 : callT Try.prog 4 = true := by kernel_rfl
@[simp] theorem callT_5 : callT Try.prog 5 = true := by kernel_rfl
@[simp] theorem callT_6 : callT Try.prog 6 = true := by kernel_rfl
@[simp] theorem callT_7 : callT Try.prog 7 = true := by kernel_rfl
@[simp] theorem callT_8 : callT Try.prog 8 = true := by kernel_rfl
@[simp] theorem callT_9 : callT Try.prog 9 = true := by kernel_rfl
@[simp] theorem callT_10 : callT Try.prog 10 = true := by kernel_rfl
@[simp] theorem callT_11 : callT Try.prog 11 = true := by kernel_rfl
@[simp] theorem callT_12 : callT Try.prog 12 = true := by kernel_rfl
@[simp] theorem callT_13 : callT Try.prog 13 = true := by kernel_rfl
@[simp] theorem callT_14 : callT Try.prog 14 = true := by kernel_rfl
@[simp] theorem callT_15 : callT Try.prog 15 = true := by kernel_rfl
@[simp] theorem callT_16 : callT Try.prog 16 = true := by kernel_rfl
@[simp] theorem callT_17 : callT Try.prog 17 = true := by kernel_rfl
@[simp] theorem callT_18 : callT Try.prog 18 = true := by kernel_rfl
@[simp] theorem callT_19 : callT Try.prog 19 = true := by kernel_rfl
@[simp] theorem callT_20 : callT Try.prog 20 = true := by kernel_rfl
@[simp] theorem callT_21 : callT Try.prog 21 = true := by kernel_rfl
@[simp] theorem callT_22 : callT Try.prog 22 = true := by kernel_rfl
@[simp] theorem callT_23 : callT Try.prog 23 = true := by kernel_rfl
@[simp] theorem callT_24 : callT Try.prog 24 = true := by kernel_rfl
end Go.Proofs.Ytfamikdibjhnpaa.V
