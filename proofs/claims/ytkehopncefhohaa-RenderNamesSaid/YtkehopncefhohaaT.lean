/- Facts about this seat's types and functions, printed by my own program; each is checked by the kernel. -/
import Derived.Test.YtkehopncefhohaaProg
import Derived.Test.YtkehopncefhohaaV9
import Derived.KernelRfl
namespace Go.Proofs.Ytkehopncefhohaa.V
open Go Go.Proofs
@[simp] theorem szT_1 : szT Try.prog 1 = some 1 := by kernel_rfl
@[simp] theorem byT_1 : byT Try.prog 1 = some 8 := by kernel_rfl
@[simp] theorem aggT_1 : aggT Try.prog 1 = some false := by kernel_rfl
@[simp] theorem zeroT_1 : zeroT Try.prog 1 = some [.nilFunc] := by kernel_rfl
@[simp] theorem eqK_1 : eqK Try.prog 1 = .func := by kernel_rfl
@[simp] theorem concT_1 : concT Try.prog 1 = true := by kernel_rfl
@[simp] theorem nintT_1 : nintT Try.prog 1 = true := by kernel_rfl
@[simp] theorem szT_2 : szT Try.prog 2 = some 1 := by kernel_rfl
@[simp] theorem byT_2 : byT Try.prog 2 = some 8 := by kernel_rfl
@[simp] theorem aggT_2 : aggT Try.prog 2 = some false := by kernel_rfl
@[simp] theorem zeroT_2 : zeroT Try.prog 2 = some [.int .i64 0] := by kernel_rfl
@[simp] theorem eqK_2 : eqK Try.prog 2 = .int := by kernel_rfl
@[simp] theorem concT_2 : concT Try.prog 2 = true := by kernel_rfl
@[simp] theorem szT_3 : szT Try.prog 3 = some 1 := by kernel_rfl
@[simp] theorem byT_3 : byT Try.prog 3 = some 8 := by kernel_rfl
@[simp] theorem aggT_3 : aggT Try.prog 3 = some false := by kernel_rfl
@[simp] theorem zeroT_3 : zeroT Try.prog 3 = some [.int .i64 0] := by kernel_rfl
@[simp] theorem eqK_3 : eqK Try.prog 3 = .int := by kernel_rfl
@[simp] theorem concT_3 : concT Try.prog 3 = true := by kernel_rfl
@[simp] theorem szT_4 : szT Try.prog 4 = some 1 := by kernel_rfl
@[simp] theorem byT_4 : byT Try.prog 4 = some 1 := by kernel_rfl
@[simp] theorem aggT_4 : aggT Try.prog 4 = some false := by kernel_rfl
@[simp] theorem zeroT_4 : zeroT Try.prog 4 = some [.bool false] := by kernel_rfl
@[simp] theorem eqK_4 : eqK Try.prog 4 = .bool := by kernel_rfl
@[simp] theorem concT_4 : concT Try.prog 4 = true := by kernel_rfl
@[simp] theorem nintT_4 : nintT Try.prog 4 = true := by kernel_rfl
@[simp] theorem szT_5 : szT Try.prog 5 = some 1 := by kernel_rfl
@[simp] theorem byT_5 : byT Try.prog 5 = some 1 := by kernel_rfl
@[simp] theorem aggT_5 : aggT Try.prog 5 = some false := by kernel_rfl
@[simp] theorem zeroT_5 : zeroT Try.prog 5 = some [.int .u8 0] := by kernel_rfl
@[simp] theorem eqK_5 : eqK Try.prog 5 = .int := by kernel_rfl
@[simp] theorem concT_5 : concT Try.prog 5 = true := by kernel_rfl
@[simp] theorem szT_7 : szT Try.prog 7 = some 4 := by kernel_rfl
@[simp] theorem byT_7 : byT Try.prog 7 = some 24 := by kernel_rfl
@[simp] theorem aggT_7 : aggT Try.prog 7 = some true := by kernel_rfl
@[simp] theorem zeroT_7 : zeroT Try.prog 7 = some [.int .i64 0, .int .i64 0, .bool false, .int .u8 0] := by kernel_rfl
@[simp] theorem fieldsT_7_0 : fieldsT Try.prog 7 0 = some (0, 2) := by kernel_rfl
@[simp] theorem fieldO_7_0 : fieldO Try.prog 7 0 = some 0 := by kernel_rfl
@[simp] theorem fieldsT_7_1 : fieldsT Try.prog 7 1 = some (1, 3) := by kernel_rfl
@[simp] theorem fieldO_7_1 : fieldO Try.prog 7 1 = some 1 := by kernel_rfl
@[simp] theorem fieldsT_7_2 : fieldsT Try.prog 7 2 = some (2, 4) := by kernel_rfl
@[simp] theorem fieldO_7_2 : fieldO Try.prog 7 2 = some 2 := by kernel_rfl
@[simp] theorem fieldsT_7_3 : fieldsT Try.prog 7 3 = some (3, 6) := by kernel_rfl
@[simp] theorem fieldO_7_3 : fieldO Try.prog 7 3 = some 3 := by kernel_rfl
@[simp] theorem placesT_7 : placesT Try.prog 7 = some [(0, 1), (1, 1), (2, 1), (3, 1)] := by kernel_rfl
@[simp] theorem arrT_7 : arrT Try.prog 7 = none := by kernel_rfl
@[simp] theorem eqK_7 : eqK Try.prog 7 = .struct [(2, 0), (3, 1), (4, 2), (6, 3)] := by kernel_rfl
@[simp] theorem eqG_7 : Program.eqGuardType Try.prog (Program.depth Try.prog) 7 = false := by kernel_rfl
@[simp] theorem concT_7 : concT Try.prog 7 = true := by kernel_rfl
@[simp] theorem nintT_7 : nintT Try.prog 7 = true := by kernel_rfl
@[simp] theorem szT_9 : szT Try.prog 9 = some 1 := by kernel_rfl
@[simp] theorem byT_9 : byT Try.prog 9 = some 16 := by kernel_rfl
@[simp] theorem aggT_9 : aggT Try.prog 9 = some false := by kernel_rfl
@[simp] theorem zeroT_9 : zeroT Try.prog 9 = some [.str ⟨#[]⟩] := by kernel_rfl
@[simp] theorem isStr_9 : isStr Try.prog 9 = true := by kernel_rfl
@[simp] theorem lenK_9 : lenK Try.prog 9 = .str := by kernel_rfl
@[simp] theorem eqK_9 : eqK Try.prog 9 = .string := by kernel_rfl
@[simp] theorem concT_9 : concT Try.prog 9 = true := by kernel_rfl
@[simp] theorem nintT_9 : nintT Try.prog 9 = true := by kernel_rfl
@[simp] theorem szT_12 : szT Try.prog 12 = some 1 := by kernel_rfl
@[simp] theorem byT_12 : byT Try.prog 12 = some 8 := by kernel_rfl
@[simp] theorem aggT_12 : aggT Try.prog 12 = some false := by kernel_rfl
@[simp] theorem zeroT_12 : zeroT Try.prog 12 = some [.int .u64 0] := by kernel_rfl
@[simp] theorem eqK_12 : eqK Try.prog 12 = .int := by kernel_rfl
@[simp] theorem concT_12 : concT Try.prog 12 = true := by kernel_rfl
@[simp] theorem szT_13 : szT Try.prog 13 = some 2 := by kernel_rfl
@[simp] theorem byT_13 : byT Try.prog 13 = some 24 := by kernel_rfl
@[simp] theorem aggT_13 : aggT Try.prog 13 = some true := by kernel_rfl
@[simp] theorem zeroT_13 : zeroT Try.prog 13 = some [.str ⟨#[]⟩, .int .u64 0] := by kernel_rfl
@[simp] theorem fieldsT_13_0 : fieldsT Try.prog 13 0 = some (0, 9) := by kernel_rfl
@[simp] theorem fieldO_13_0 : fieldO Try.prog 13 0 = some 0 := by kernel_rfl
@[simp] theorem fieldsT_13_1 : fieldsT Try.prog 13 1 = some (1, 12) := by kernel_rfl
@[simp] theorem fieldO_13_1 : fieldO Try.prog 13 1 = some 1 := by kernel_rfl
@[simp] theorem placesT_13 : placesT Try.prog 13 = some [(0, 1), (1, 1)] := by kernel_rfl
@[simp] theorem arrT_13 : arrT Try.prog 13 = none := by kernel_rfl
@[simp] theorem eqG_13 : Program.eqGuardType Try.prog (Program.depth Try.prog) 13 = false := by kernel_rfl
@[simp] theorem concT_13 : concT Try.prog 13 = true := by kernel_rfl
@[simp] theorem nintT_13 : nintT Try.prog 13 = true := by kernel_rfl
@[simp] theorem szT_15 : szT Try.prog 15 = some 1 := by kernel_rfl
@[simp] theorem byT_15 : byT Try.prog 15 = some 8 := by kernel_rfl
@[simp] theorem aggT_15 : aggT Try.prog 15 = some false := by kernel_rfl
@[simp] theorem zeroT_15 : zeroT Try.prog 15 = some [.nilptr] := by kernel_rfl
@[simp] theorem eqK_15 : eqK Try.prog 15 = .pointer := by kernel_rfl
@[simp] theorem concT_15 : concT Try.prog 15 = true := by kernel_rfl
@[simp] theorem nintT_15 : nintT Try.prog 15 = true := by kernel_rfl
@[simp] theorem szT_16 : szT Try.prog 16 = some 1 := by kernel_rfl
@[simp] theorem byT_16 : byT Try.prog 16 = some 8 := by kernel_rfl
@[simp] theorem aggT_16 : aggT Try.prog 16 = some false := by kernel_rfl
@[simp] theorem zeroT_16 : zeroT Try.prog 16 = some [.nilptr] := by kernel_rfl
@[simp] theorem eqK_16 : eqK Try.prog 16 = .pointer := by kernel_rfl
@[simp] theorem concT_16 : concT Try.prog 16 = true := by kernel_rfl
@[simp] theorem nintT_16 : nintT Try.prog 16 = true := by kernel_rfl
@[simp] theorem szT_17 : szT Try.prog 17 = some 1 := by kernel_rfl
@[simp] theorem byT_17 : byT Try.prog 17 = some 8 := by kernel_rfl
@[simp] theorem aggT_17 : aggT Try.prog 17 = some false := by kernel_rfl
@[simp] theorem zeroT_17 : zeroT Try.prog 17 = some [.nilptr] := by kernel_rfl
@[simp] theorem eqK_17 : eqK Try.prog 17 = .pointer := by kernel_rfl
@[simp] theorem concT_17 : concT Try.prog 17 = true := by kernel_rfl
@[simp] theorem nintT_17 : nintT Try.prog 17 = true := by kernel_rfl
@[simp] theorem szT_18 : szT Try.prog 18 = some 1 := by kernel_rfl
@[simp] theorem byT_18 : byT Try.prog 18 = some 8 := by kernel_rfl
@[simp] theorem aggT_18 : aggT Try.prog 18 = some true := by kernel_rfl
@[simp] theorem zeroT_18 : zeroT Try.prog 18 = some [.nilptr] := by kernel_rfl
@[simp] theorem fieldsT_18_0 : fieldsT Try.prog 18 0 = some (0, 17) := by kernel_rfl
@[simp] theorem fieldO_18_0 : fieldO Try.prog 18 0 = some 0 := by kernel_rfl
@[simp] theorem placesT_18 : placesT Try.prog 18 = some [(0, 1)] := by kernel_rfl
@[simp] theorem arrT_18 : arrT Try.prog 18 = none := by kernel_rfl
@[simp] theorem eqG_18 : Program.eqGuardType Try.prog (Program.depth Try.prog) 18 = false := by kernel_rfl
@[simp] theorem concT_18 : concT Try.prog 18 = true := by kernel_rfl
@[simp] theorem nintT_18 : nintT Try.prog 18 = true := by kernel_rfl
@[simp] theorem szT_20 : szT Try.prog 20 = some 1 := by kernel_rfl
@[simp] theorem byT_20 : byT Try.prog 20 = some 16 := by kernel_rfl
@[simp] theorem aggT_20 : aggT Try.prog 20 = some false := by kernel_rfl
@[simp] theorem zeroT_20 : zeroT Try.prog 20 = some [.nilIface] := by kernel_rfl
@[simp] theorem eqK_20 : eqK Try.prog 20 = .iface := by kernel_rfl
@[simp] theorem nintT_20 : nintT Try.prog 20 = true := by kernel_rfl
@[simp] theorem szT_21 : szT Try.prog 21 = some 1 := by kernel_rfl
@[simp] theorem byT_21 : byT Try.prog 21 = some 4 := by kernel_rfl
@[simp] theorem aggT_21 : aggT Try.prog 21 = some false := by kernel_rfl
@[simp] theorem zeroT_21 : zeroT Try.prog 21 = some [.int .i32 0] := by kernel_rfl
@[simp] theorem eqK_21 : eqK Try.prog 21 = .int := by kernel_rfl
@[simp] theorem concT_21 : concT Try.prog 21 = true := by kernel_rfl
@[simp] theorem szT_22 : szT Try.prog 22 = some 1 := by kernel_rfl
@[simp] theorem byT_22 : byT Try.prog 22 = some 24 := by kernel_rfl
@[simp] theorem aggT_22 : aggT Try.prog 22 = some false := by kernel_rfl
@[simp] theorem zeroT_22 : zeroT Try.prog 22 = some [.nilslice] := by kernel_rfl
@[simp] theorem sliT_22 : sliT Try.prog 22 = some 5 := by kernel_rfl
@[simp] theorem lenK_22 : lenK Try.prog 22 = .slice := by kernel_rfl
@[simp] theorem eqK_22 : eqK Try.prog 22 = .slice := by kernel_rfl
@[simp] theorem arrT_22 : arrT Try.prog 22 = none := by kernel_rfl
@[simp] theorem concT_22 : concT Try.prog 22 = true := by kernel_rfl
@[simp] theorem nintT_22 : nintT Try.prog 22 = true := by kernel_rfl
@[simp] theorem szT_23 : szT Try.prog 23 = some 3 := by kernel_rfl
@[simp] theorem byT_23 : byT Try.prog 23 = some 56 := by kernel_rfl
@[simp] theorem aggT_23 : aggT Try.prog 23 = some true := by kernel_rfl
@[simp] theorem zeroT_23 : zeroT Try.prog 23 = some [.int .i64 0, .nilslice, .nilslice] := by kernel_rfl
@[simp] theorem fieldsT_23_0 : fieldsT Try.prog 23 0 = some (0, 2) := by kernel_rfl
@[simp] theorem fieldO_23_0 : fieldO Try.prog 23 0 = some 0 := by kernel_rfl
@[simp] theorem fieldsT_23_1 : fieldsT Try.prog 23 1 = some (1, 22) := by kernel_rfl
@[simp] theorem fieldO_23_1 : fieldO Try.prog 23 1 = some 1 := by kernel_rfl
@[simp] theorem fieldsT_23_2 : fieldsT Try.prog 23 2 = some (2, 22) := by kernel_rfl
@[simp] theorem fieldO_23_2 : fieldO Try.prog 23 2 = some 2 := by kernel_rfl
@[simp] theorem placesT_23 : placesT Try.prog 23 = some [(0, 1), (1, 1), (2, 1)] := by kernel_rfl
@[simp] theorem arrT_23 : arrT Try.prog 23 = none := by kernel_rfl
@[simp] theorem eqK_23 : eqK Try.prog 23 = .struct [(2, 0), (22, 1), (22, 2)] := by kernel_rfl
@[simp] theorem eqG_23 : Program.eqGuardType Try.prog (Program.depth Try.prog) 23 = false := by kernel_rfl
@[simp] theorem concT_23 : concT Try.prog 23 = true := by kernel_rfl
@[simp] theorem nintT_23 : nintT Try.prog 23 = true := by kernel_rfl
@[simp] theorem szT_24 : szT Try.prog 24 = some 3 := by kernel_rfl
@[simp] theorem byT_24 : byT Try.prog 24 = some 56 := by kernel_rfl
@[simp] theorem aggT_24 : aggT Try.prog 24 = some true := by kernel_rfl
@[simp] theorem zeroT_24 : zeroT Try.prog 24 = some [.int .i64 0, .nilslice, .nilslice] := by kernel_rfl
@[simp] theorem fieldsT_24_0 : fieldsT Try.prog 24 0 = some (0, 2) := by kernel_rfl
@[simp] theorem fieldO_24_0 : fieldO Try.prog 24 0 = some 0 := by kernel_rfl
@[simp] theorem fieldsT_24_1 : fieldsT Try.prog 24 1 = some (1, 22) := by kernel_rfl
@[simp] theorem fieldO_24_1 : fieldO Try.prog 24 1 = some 1 := by kernel_rfl
@[simp] theorem fieldsT_24_2 : fieldsT Try.prog 24 2 = some (2, 22) := by kernel_rfl
@[simp] theorem fieldO_24_2 : fieldO Try.prog 24 2 = some 2 := by kernel_rfl
@[simp] theorem placesT_24 : placesT Try.prog 24 = some [(0, 1), (1, 1), (2, 1)] := by kernel_rfl
@[simp] theorem arrT_24 : arrT Try.prog 24 = none := by kernel_rfl
@[simp] theorem eqK_24 : eqK Try.prog 24 = .struct [(2, 0), (22, 1), (22, 2)] := by kernel_rfl
@[simp] theorem eqG_24 : Program.eqGuardType Try.prog (Program.depth Try.prog) 24 = false := by kernel_rfl
@[simp] theorem concT_24 : concT Try.prog 24 = true := by kernel_rfl
@[simp] theorem nintT_24 : nintT Try.prog 24 = true := by kernel_rfl
@[simp] theorem szT_25 : szT Try.prog 25 = some 1 := by kernel_rfl
@[simp] theorem byT_25 : byT Try.prog 25 = some 8 := by kernel_rfl
@[simp] theorem aggT_25 : aggT Try.prog 25 = some false := by kernel_rfl
@[simp] theorem zeroT_25 : zeroT Try.prog 25 = some [.int .i64 0] := by kernel_rfl
@[simp] theorem eqK_25 : eqK Try.prog 25 = .int := by kernel_rfl
@[simp] theorem concT_25 : concT Try.prog 25 = true := by kernel_rfl
@[simp] theorem szT_27 : szT Try.prog 27 = some 1 := by kernel_rfl
@[simp] theorem byT_27 : byT Try.prog 27 = some 8 := by kernel_rfl
@[simp] theorem aggT_27 : aggT Try.prog 27 = some false := by kernel_rfl
@[simp] theorem zeroT_27 : zeroT Try.prog 27 = some [.nilFunc] := by kernel_rfl
@[simp] theorem eqK_27 : eqK Try.prog 27 = .func := by kernel_rfl
@[simp] theorem concT_27 : concT Try.prog 27 = true := by kernel_rfl
@[simp] theorem nintT_27 : nintT Try.prog 27 = true := by kernel_rfl
@[simp] theorem szT_28 : szT Try.prog 28 = some 7 := by kernel_rfl
@[simp] theorem byT_28 : byT Try.prog 28 = some 56 := by kernel_rfl
@[simp] theorem aggT_28 : aggT Try.prog 28 = some true := by kernel_rfl
@[simp] theorem zeroT_28 : zeroT Try.prog 28 = some [.int .i64 0, .int .i64 0, .int .i64 0, .int .i64 0, .int .i64 0, .int .i64 0, .int .i64 0] := by kernel_rfl
@[simp] theorem fieldsT_28_0 : fieldsT Try.prog 28 0 = some (0, 3) := by kernel_rfl
@[simp] theorem fieldO_28_0 : fieldO Try.prog 28 0 = some 0 := by kernel_rfl
@[simp] theorem fieldsT_28_1 : fieldsT Try.prog 28 1 = some (1, 3) := by kernel_rfl
@[simp] theorem fieldO_28_1 : fieldO Try.prog 28 1 = some 1 := by kernel_rfl
@[simp] theorem fieldsT_28_2 : fieldsT Try.prog 28 2 = some (2, 3) := by kernel_rfl
@[simp] theorem fieldO_28_2 : fieldO Try.prog 28 2 = some 2 := by kernel_rfl
@[simp] theorem fieldsT_28_3 : fieldsT Try.prog 28 3 = some (3, 3) := by kernel_rfl
@[simp] theorem fieldO_28_3 : fieldO Try.prog 28 3 = some 3 := by kernel_rfl
@[simp] theorem fieldsT_28_4 : fieldsT Try.prog 28 4 = some (4, 3) := by kernel_rfl
@[simp] theorem fieldO_28_4 : fieldO Try.prog 28 4 = some 4 := by kernel_rfl
@[simp] theorem fieldsT_28_5 : fieldsT Try.prog 28 5 = some (5, 3) := by kernel_rfl
@[simp] theorem fieldO_28_5 : fieldO Try.prog 28 5 = some 5 := by kernel_rfl
@[simp] theorem fieldsT_28_6 : fieldsT Try.prog 28 6 = some (6, 3) := by kernel_rfl
@[simp] theorem fieldO_28_6 : fieldO Try.prog 28 6 = some 6 := by kernel_rfl
@[simp] theorem placesT_28 : placesT Try.prog 28 = some [(0, 1), (1, 1), (2, 1), (3, 1), (4, 1), (5, 1), (6, 1)] := by kernel_rfl
@[simp] theorem arrT_28 : arrT Try.prog 28 = none := by kernel_rfl
@[simp] theorem eqK_28 : eqK Try.prog 28 = .struct [(3, 0), (3, 1), (3, 2), (3, 3), (3, 4), (3, 5), (3, 6)] := by kernel_rfl
@[simp] theorem eqG_28 : Program.eqGuardType Try.prog (Program.depth Try.prog) 28 = false := by kernel_rfl
@[simp] theorem concT_28 : concT Try.prog 28 = true := by kernel_rfl
@[simp] theorem nintT_28 : nintT Try.prog 28 = true := by kernel_rfl
@[simp] theorem szT_29 : szT Try.prog 29 = some 7 := by kernel_rfl
@[simp] theorem byT_29 : byT Try.prog 29 = some 56 := by kernel_rfl
@[simp] theorem aggT_29 : aggT Try.prog 29 = some true := by kernel_rfl
@[simp] theorem zeroT_29 : zeroT Try.prog 29 = some [.int .i64 0, .int .i64 0, .int .i64 0, .int .i64 0, .int .i64 0, .int .i64 0, .int .i64 0] := by kernel_rfl
@[simp] theorem fieldsT_29_0 : fieldsT Try.prog 29 0 = some (0, 3) := by kernel_rfl
@[simp] theorem fieldO_29_0 : fieldO Try.prog 29 0 = some 0 := by kernel_rfl
@[simp] theorem fieldsT_29_1 : fieldsT Try.prog 29 1 = some (1, 3) := by kernel_rfl
@[simp] theorem fieldO_29_1 : fieldO Try.prog 29 1 = some 1 := by kernel_rfl
@[simp] theorem fieldsT_29_2 : fieldsT Try.prog 29 2 = some (2, 3) := by kernel_rfl
@[simp] theorem fieldO_29_2 : fieldO Try.prog 29 2 = some 2 := by kernel_rfl
@[simp] theorem fieldsT_29_3 : fieldsT Try.prog 29 3 = some (3, 3) := by kernel_rfl
@[simp] theorem fieldO_29_3 : fieldO Try.prog 29 3 = some 3 := by kernel_rfl
@[simp] theorem fieldsT_29_4 : fieldsT Try.prog 29 4 = some (4, 3) := by kernel_rfl
@[simp] theorem fieldO_29_4 : fieldO Try.prog 29 4 = some 4 := by kernel_rfl
@[simp] theorem fieldsT_29_5 : fieldsT Try.prog 29 5 = some (5, 3) := by kernel_rfl
@[simp] theorem fieldO_29_5 : fieldO Try.prog 29 5 = some 5 := by kernel_rfl
@[simp] theorem fieldsT_29_6 : fieldsT Try.prog 29 6 = some (6, 3) := by kernel_rfl
@[simp] theorem fieldO_29_6 : fieldO Try.prog 29 6 = some 6 := by kernel_rfl
@[simp] theorem placesT_29 : placesT Try.prog 29 = some [(0, 1), (1, 1), (2, 1), (3, 1), (4, 1), (5, 1), (6, 1)] := by kernel_rfl
@[simp] theorem arrT_29 : arrT Try.prog 29 = none := by kernel_rfl
@[simp] theorem eqK_29 : eqK Try.prog 29 = .struct [(3, 0), (3, 1), (3, 2), (3, 3), (3, 4), (3, 5), (3, 6)] := by kernel_rfl
@[simp] theorem eqG_29 : Program.eqGuardType Try.prog (Program.depth Try.prog) 29 = false := by kernel_rfl
@[simp] theorem concT_29 : concT Try.prog 29 = true := by kernel_rfl
@[simp] theorem nintT_29 : nintT Try.prog 29 = true := by kernel_rfl
@[simp] theorem szT_30 : szT Try.prog 30 = some 1 := by kernel_rfl
@[simp] theorem byT_30 : byT Try.prog 30 = some 8 := by kernel_rfl
@[simp] theorem aggT_30 : aggT Try.prog 30 = some false := by kernel_rfl
@[simp] theorem zeroT_30 : zeroT Try.prog 30 = some [.nilFunc] := by kernel_rfl
@[simp] theorem eqK_30 : eqK Try.prog 30 = .func := by kernel_rfl
@[simp] theorem concT_30 : concT Try.prog 30 = true := by kernel_rfl
@[simp] theorem nintT_30 : nintT Try.prog 30 = true := by kernel_rfl
@[simp] theorem szT_31 : szT Try.prog 31 = some 1 := by kernel_rfl
@[simp] theorem byT_31 : byT Try.prog 31 = some 24 := by kernel_rfl
@[simp] theorem aggT_31 : aggT Try.prog 31 = some false := by kernel_rfl
@[simp] theorem zeroT_31 : zeroT Try.prog 31 = some [.nilslice] := by kernel_rfl
@[simp] theorem sliT_31 : sliT Try.prog 31 = some 24 := by kernel_rfl
@[simp] theorem lenK_31 : lenK Try.prog 31 = .slice := by kernel_rfl
@[simp] theorem eqK_31 : eqK Try.prog 31 = .slice := by kernel_rfl
@[simp] theorem arrT_31 : arrT Try.prog 31 = none := by kernel_rfl
@[simp] theorem concT_31 : concT Try.prog 31 = true := by kernel_rfl
@[simp] theorem nintT_31 : nintT Try.prog 31 = true := by kernel_rfl
@[simp] theorem szT_33 : szT Try.prog 33 = some 1 := by kernel_rfl
@[simp] theorem byT_33 : byT Try.prog 33 = some 8 := by kernel_rfl
@[simp] theorem aggT_33 : aggT Try.prog 33 = some false := by kernel_rfl
@[simp] theorem zeroT_33 : zeroT Try.prog 33 = some [.nilFunc] := by kernel_rfl
@[simp] theorem eqK_33 : eqK Try.prog 33 = .func := by kernel_rfl
@[simp] theorem concT_33 : concT Try.prog 33 = true := by kernel_rfl
@[simp] theorem nintT_33 : nintT Try.prog 33 = true := by kernel_rfl
@[simp] theorem szT_35 : szT Try.prog 35 = some 1 := by kernel_rfl
@[simp] theorem byT_35 : byT Try.prog 35 = some 8 := by kernel_rfl
@[simp] theorem aggT_35 : aggT Try.prog 35 = some false := by kernel_rfl
@[simp] theorem zeroT_35 : zeroT Try.prog 35 = some [.nilFunc] := by kernel_rfl
@[simp] theorem eqK_35 : eqK Try.prog 35 = .func := by kernel_rfl
@[simp] theorem concT_35 : concT Try.prog 35 = true := by kernel_rfl
@[simp] theorem nintT_35 : nintT Try.prog 35 = true := by kernel_rfl
@[simp] theorem szT_36 : szT Try.prog 36 = some 1 := by kernel_rfl
@[simp] theorem byT_36 : byT Try.prog 36 = some 8 := by kernel_rfl
@[simp] theorem aggT_36 : aggT Try.prog 36 = some false := by kernel_rfl
@[simp] theorem zeroT_36 : zeroT Try.prog 36 = some [.nilFunc] := by kernel_rfl
@[simp] theorem eqK_36 : eqK Try.prog 36 = .func := by kernel_rfl
@[simp] theorem concT_36 : concT Try.prog 36 = true := by kernel_rfl
@[simp] theorem nintT_36 : nintT Try.prog 36 = true := by kernel_rfl
@[simp] theorem szT_37 : szT Try.prog 37 = some 1 := by kernel_rfl
@[simp] theorem byT_37 : byT Try.prog 37 = some 24 := by kernel_rfl
@[simp] theorem aggT_37 : aggT Try.prog 37 = some false := by kernel_rfl
@[simp] theorem zeroT_37 : zeroT Try.prog 37 = some [.nilslice] := by kernel_rfl
@[simp] theorem sliT_37 : sliT Try.prog 37 = some 71 := by kernel_rfl
@[simp] theorem lenK_37 : lenK Try.prog 37 = .slice := by kernel_rfl
@[simp] theorem eqK_37 : eqK Try.prog 37 = .slice := by kernel_rfl
@[simp] theorem arrT_37 : arrT Try.prog 37 = none := by kernel_rfl
@[simp] theorem concT_37 : concT Try.prog 37 = true := by kernel_rfl
@[simp] theorem nintT_37 : nintT Try.prog 37 = true := by kernel_rfl
@[simp] theorem szT_38 : szT Try.prog 38 = some 1 := by kernel_rfl
@[simp] theorem byT_38 : byT Try.prog 38 = some 8 := by kernel_rfl
@[simp] theorem aggT_38 : aggT Try.prog 38 = some false := by kernel_rfl
@[simp] theorem zeroT_38 : zeroT Try.prog 38 = some [.nilFunc] := by kernel_rfl
@[simp] theorem eqK_38 : eqK Try.prog 38 = .func := by kernel_rfl
@[simp] theorem concT_38 : concT Try.prog 38 = true := by kernel_rfl
@[simp] theorem nintT_38 : nintT Try.prog 38 = true := by kernel_rfl
@[simp] theorem szT_39 : szT Try.prog 39 = some 1 := by kernel_rfl
@[simp] theorem byT_39 : byT Try.prog 39 = some 8 := by kernel_rfl
@[simp] theorem aggT_39 : aggT Try.prog 39 = some false := by kernel_rfl
@[simp] theorem zeroT_39 : zeroT Try.prog 39 = some [.nilFunc] := by kernel_rfl
@[simp] theorem eqK_39 : eqK Try.prog 39 = .func := by kernel_rfl
@[simp] theorem concT_39 : concT Try.prog 39 = true := by kernel_rfl
@[simp] theorem nintT_39 : nintT Try.prog 39 = true := by kernel_rfl
@[simp] theorem szT_40 : szT Try.prog 40 = some 1 := by kernel_rfl
@[simp] theorem byT_40 : byT Try.prog 40 = some 8 := by kernel_rfl
@[simp] theorem aggT_40 : aggT Try.prog 40 = some false := by kernel_rfl
@[simp] theorem zeroT_40 : zeroT Try.prog 40 = some [.nilFunc] := by kernel_rfl
@[simp] theorem eqK_40 : eqK Try.prog 40 = .func := by kernel_rfl
@[simp] theorem concT_40 : concT Try.prog 40 = true := by kernel_rfl
@[simp] theorem nintT_40 : nintT Try.prog 40 = true := by kernel_rfl
@[simp] theorem szT_41 : szT Try.prog 41 = some 1 := by kernel_rfl
@[simp] theorem byT_41 : byT Try.prog 41 = some 8 := by kernel_rfl
@[simp] theorem aggT_41 : aggT Try.prog 41 = some false := by kernel_rfl
@[simp] theorem zeroT_41 : zeroT Try.prog 41 = some [.nilptr] := by kernel_rfl
@[simp] theorem eqK_41 : eqK Try.prog 41 = .pointer := by kernel_rfl
@[simp] theorem concT_41 : concT Try.prog 41 = true := by kernel_rfl
@[simp] theorem nintT_41 : nintT Try.prog 41 = true := by kernel_rfl
@[simp] theorem szT_42 : szT Try.prog 42 = some 1 := by kernel_rfl
@[simp] theorem byT_42 : byT Try.prog 42 = some 8 := by kernel_rfl
@[simp] theorem aggT_42 : aggT Try.prog 42 = some false := by kernel_rfl
@[simp] theorem zeroT_42 : zeroT Try.prog 42 = some [.nilmap] := by kernel_rfl
@[simp] theorem lenK_42 : lenK Try.prog 42 = .map := by kernel_rfl
@[simp] theorem eqK_42 : eqK Try.prog 42 = .map := by kernel_rfl
@[simp] theorem concT_42 : concT Try.prog 42 = true := by kernel_rfl
@[simp] theorem nintT_42 : nintT Try.prog 42 = true := by kernel_rfl
@[simp] theorem szT_43 : szT Try.prog 43 = some 1 := by kernel_rfl
@[simp] theorem byT_43 : byT Try.prog 43 = some 8 := by kernel_rfl
@[simp] theorem aggT_43 : aggT Try.prog 43 = some false := by kernel_rfl
@[simp] theorem zeroT_43 : zeroT Try.prog 43 = some [.nilFunc] := by kernel_rfl
@[simp] theorem eqK_43 : eqK Try.prog 43 = .func := by kernel_rfl
@[simp] theorem concT_43 : concT Try.prog 43 = true := by kernel_rfl
@[simp] theorem nintT_43 : nintT Try.prog 43 = true := by kernel_rfl
@[simp] theorem szT_44 : szT Try.prog 44 = some 1 := by kernel_rfl
@[simp] theorem byT_44 : byT Try.prog 44 = some 24 := by kernel_rfl
@[simp] theorem aggT_44 : aggT Try.prog 44 = some false := by kernel_rfl
@[simp] theorem zeroT_44 : zeroT Try.prog 44 = some [.nilslice] := by kernel_rfl
@[simp] theorem sliT_44 : sliT Try.prog 44 = some 2 := by kernel_rfl
@[simp] theorem lenK_44 : lenK Try.prog 44 = .slice := by kernel_rfl
@[simp] theorem eqK_44 : eqK Try.prog 44 = .slice := by kernel_rfl
@[simp] theorem arrT_44 : arrT Try.prog 44 = none := by kernel_rfl
@[simp] theorem concT_44 : concT Try.prog 44 = true := by kernel_rfl
@[simp] theorem nintT_44 : nintT Try.prog 44 = true := by kernel_rfl
@[simp] theorem szT_45 : szT Try.prog 45 = some 1 := by kernel_rfl
@[simp] theorem byT_45 : byT Try.prog 45 = some 8 := by kernel_rfl
@[simp] theorem aggT_45 : aggT Try.prog 45 = some false := by kernel_rfl
@[simp] theorem zeroT_45 : zeroT Try.prog 45 = some [.nilFunc] := by kernel_rfl
@[simp] theorem eqK_45 : eqK Try.prog 45 = .func := by kernel_rfl
@[simp] theorem concT_45 : concT Try.prog 45 = true := by kernel_rfl
@[simp] theorem nintT_45 : nintT Try.prog 45 = true := by kernel_rfl
@[simp] theorem szT_46 : szT Try.prog 46 = some 1 := by kernel_rfl
@[simp] theorem byT_46 : byT Try.prog 46 = some 8 := by kernel_rfl
@[simp] theorem aggT_46 : aggT Try.prog 46 = some false := by kernel_rfl
@[simp] theorem zeroT_46 : zeroT Try.prog 46 = some [.nilFunc] := by kernel_rfl
@[simp] theorem eqK_46 : eqK Try.prog 46 = .func := by kernel_rfl
@[simp] theorem concT_46 : concT Try.prog 46 = true := by kernel_rfl
@[simp] theorem nintT_46 : nintT Try.prog 46 = true := by kernel_rfl
@[simp] theorem szT_47 : szT Try.prog 47 = some 1 := by kernel_rfl
@[simp] theorem byT_47 : byT Try.prog 47 = some 8 := by kernel_rfl
@[simp] theorem aggT_47 : aggT Try.prog 47 = some false := by kernel_rfl
@[simp] theorem zeroT_47 : zeroT Try.prog 47 = some [.nilFunc] := by kernel_rfl
@[simp] theorem eqK_47 : eqK Try.prog 47 = .func := by kernel_rfl
@[simp] theorem concT_47 : concT Try.prog 47 = true := by kernel_rfl
@[simp] theorem nintT_47 : nintT Try.prog 47 = true := by kernel_rfl
@[simp] theorem szT_48 : szT Try.prog 48 = some 1 := by kernel_rfl
@[simp] theorem byT_48 : byT Try.prog 48 = some 8 := by kernel_rfl
@[simp] theorem aggT_48 : aggT Try.prog 48 = some false := by kernel_rfl
@[simp] theorem zeroT_48 : zeroT Try.prog 48 = some [.nilFunc] := by kernel_rfl
@[simp] theorem eqK_48 : eqK Try.prog 48 = .func := by kernel_rfl
@[simp] theorem concT_48 : concT Try.prog 48 = true := by kernel_rfl
@[simp] theorem nintT_48 : nintT Try.prog 48 = true := by kernel_rfl
@[simp] theorem szT_49 : szT Try.prog 49 = some 1 := by kernel_rfl
@[simp] theorem byT_49 : byT Try.prog 49 = some 8 := by kernel_rfl
@[simp] theorem aggT_49 : aggT Try.prog 49 = some false := by kernel_rfl
@[simp] theorem zeroT_49 : zeroT Try.prog 49 = some [.nilFunc] := by kernel_rfl
@[simp] theorem eqK_49 : eqK Try.prog 49 = .func := by kernel_rfl
@[simp] theorem concT_49 : concT Try.prog 49 = true := by kernel_rfl
@[simp] theorem nintT_49 : nintT Try.prog 49 = true := by kernel_rfl
@[simp] theorem szT_50 : szT Try.prog 50 = some 1 := by kernel_rfl
@[simp] theorem byT_50 : byT Try.prog 50 = some 8 := by kernel_rfl
@[simp] theorem aggT_50 : aggT Try.prog 50 = some false := by kernel_rfl
@[simp] theorem zeroT_50 : zeroT Try.prog 50 = some [.nilFunc] := by kernel_rfl
@[simp] theorem eqK_50 : eqK Try.prog 50 = .func := by kernel_rfl
@[simp] theorem concT_50 : concT Try.prog 50 = true := by kernel_rfl
@[simp] theorem nintT_50 : nintT Try.prog 50 = true := by kernel_rfl
@[simp] theorem szT_51 : szT Try.prog 51 = some 1 := by kernel_rfl
@[simp] theorem byT_51 : byT Try.prog 51 = some 8 := by kernel_rfl
@[simp] theorem aggT_51 : aggT Try.prog 51 = some false := by kernel_rfl
@[simp] theorem zeroT_51 : zeroT Try.prog 51 = some [.nilptr] := by kernel_rfl
@[simp] theorem eqK_51 : eqK Try.prog 51 = .pointer := by kernel_rfl
@[simp] theorem concT_51 : concT Try.prog 51 = true := by kernel_rfl
@[simp] theorem nintT_51 : nintT Try.prog 51 = true := by kernel_rfl
@[simp] theorem szT_52 : szT Try.prog 52 = some 2 := by kernel_rfl
@[simp] theorem byT_52 : byT Try.prog 52 = some 32 := by kernel_rfl
@[simp] theorem aggT_52 : aggT Try.prog 52 = some true := by kernel_rfl
@[simp] theorem zeroT_52 : zeroT Try.prog 52 = some [.nilptr, .nilslice] := by kernel_rfl
@[simp] theorem fieldsT_52_0 : fieldsT Try.prog 52 0 = some (0, 51) := by kernel_rfl
@[simp] theorem fieldO_52_0 : fieldO Try.prog 52 0 = some 0 := by kernel_rfl
@[simp] theorem fieldsT_52_1 : fieldsT Try.prog 52 1 = some (1, 22) := by kernel_rfl
@[simp] theorem fieldO_52_1 : fieldO Try.prog 52 1 = some 1 := by kernel_rfl
@[simp] theorem placesT_52 : placesT Try.prog 52 = some [(0, 1), (1, 1)] := by kernel_rfl
@[simp] theorem arrT_52 : arrT Try.prog 52 = none := by kernel_rfl
@[simp] theorem eqK_52 : eqK Try.prog 52 = .struct [(51, 0), (22, 1)] := by kernel_rfl
@[simp] theorem eqG_52 : Program.eqGuardType Try.prog (Program.depth Try.prog) 52 = false := by kernel_rfl
@[simp] theorem concT_52 : concT Try.prog 52 = true := by kernel_rfl
@[simp] theorem nintT_52 : nintT Try.prog 52 = true := by kernel_rfl
@[simp] theorem szT_53 : szT Try.prog 53 = some 2 := by kernel_rfl
@[simp] theorem byT_53 : byT Try.prog 53 = some 32 := by kernel_rfl
@[simp] theorem aggT_53 : aggT Try.prog 53 = some true := by kernel_rfl
@[simp] theorem zeroT_53 : zeroT Try.prog 53 = some [.nilptr, .nilslice] := by kernel_rfl
@[simp] theorem fieldsT_53_0 : fieldsT Try.prog 53 0 = some (0, 51) := by kernel_rfl
@[simp] theorem fieldO_53_0 : fieldO Try.prog 53 0 = some 0 := by kernel_rfl
@[simp] theorem fieldsT_53_1 : fieldsT Try.prog 53 1 = some (1, 22) := by kernel_rfl
@[simp] theorem fieldO_53_1 : fieldO Try.prog 53 1 = some 1 := by kernel_rfl
@[simp] theorem placesT_53 : placesT Try.prog 53 = some [(0, 1), (1, 1)] := by kernel_rfl
@[simp] theorem arrT_53 : arrT Try.prog 53 = none := by kernel_rfl
@[simp] theorem eqK_53 : eqK Try.prog 53 = .struct [(51, 0), (22, 1)] := by kernel_rfl
@[simp] theorem eqG_53 : Program.eqGuardType Try.prog (Program.depth Try.prog) 53 = false := by kernel_rfl
@[simp] theorem concT_53 : concT Try.prog 53 = true := by kernel_rfl
@[simp] theorem nintT_53 : nintT Try.prog 53 = true := by kernel_rfl
@[simp] theorem szT_54 : szT Try.prog 54 = some 1 := by kernel_rfl
@[simp] theorem byT_54 : byT Try.prog 54 = some 16 := by kernel_rfl
@[simp] theorem aggT_54 : aggT Try.prog 54 = some false := by kernel_rfl
@[simp] theorem zeroT_54 : zeroT Try.prog 54 = some [.nilIface] := by kernel_rfl
@[simp] theorem eqK_54 : eqK Try.prog 54 = .iface := by kernel_rfl
@[simp] theorem nintT_54 : nintT Try.prog 54 = true := by kernel_rfl
@[simp] theorem szT_55 : szT Try.prog 55 = some 1 := by kernel_rfl
@[simp] theorem byT_55 : byT Try.prog 55 = some 16 := by kernel_rfl
@[simp] theorem aggT_55 : aggT Try.prog 55 = some false := by kernel_rfl
@[simp] theorem zeroT_55 : zeroT Try.prog 55 = some [.nilIface] := by kernel_rfl
@[simp] theorem eqK_55 : eqK Try.prog 55 = .iface := by kernel_rfl
@[simp] theorem nintT_55 : nintT Try.prog 55 = true := by kernel_rfl
@[simp] theorem szT_56 : szT Try.prog 56 = some 1 := by kernel_rfl
@[simp] theorem byT_56 : byT Try.prog 56 = some 8 := by kernel_rfl
@[simp] theorem aggT_56 : aggT Try.prog 56 = some false := by kernel_rfl
@[simp] theorem zeroT_56 : zeroT Try.prog 56 = some [.nilFunc] := by kernel_rfl
@[simp] theorem eqK_56 : eqK Try.prog 56 = .func := by kernel_rfl
@[simp] theorem concT_56 : concT Try.prog 56 = true := by kernel_rfl
@[simp] theorem nintT_56 : nintT Try.prog 56 = true := by kernel_rfl
@[simp] theorem szT_58 : szT Try.prog 58 = some 1 := by kernel_rfl
@[simp] theorem byT_58 : byT Try.prog 58 = some 8 := by kernel_rfl
@[simp] theorem aggT_58 : aggT Try.prog 58 = some false := by kernel_rfl
@[simp] theorem zeroT_58 : zeroT Try.prog 58 = some [.nilFunc] := by kernel_rfl
@[simp] theorem eqK_58 : eqK Try.prog 58 = .func := by kernel_rfl
@[simp] theorem concT_58 : concT Try.prog 58 = true := by kernel_rfl
@[simp] theorem nintT_58 : nintT Try.prog 58 = true := by kernel_rfl
@[simp] theorem szT_59 : szT Try.prog 59 = some 1 := by kernel_rfl
@[simp] theorem byT_59 : byT Try.prog 59 = some 8 := by kernel_rfl
@[simp] theorem aggT_59 : aggT Try.prog 59 = some false := by kernel_rfl
@[simp] theorem zeroT_59 : zeroT Try.prog 59 = some [.nilFunc] := by kernel_rfl
@[simp] theorem eqK_59 : eqK Try.prog 59 = .func := by kernel_rfl
@[simp] theorem concT_59 : concT Try.prog 59 = true := by kernel_rfl
@[simp] theorem nintT_59 : nintT Try.prog 59 = true := by kernel_rfl
@[simp] theorem szT_60 : szT Try.prog 60 = some 1 := by kernel_rfl
@[simp] theorem byT_60 : byT Try.prog 60 = some 8 := by kernel_rfl
@[simp] theorem aggT_60 : aggT Try.prog 60 = some false := by kernel_rfl
@[simp] theorem zeroT_60 : zeroT Try.prog 60 = some [.nilFunc] := by kernel_rfl
@[simp] theorem eqK_60 : eqK Try.prog 60 = .func := by kernel_rfl
@[simp] theorem concT_60 : concT Try.prog 60 = true := by kernel_rfl
@[simp] theorem nintT_60 : nintT Try.prog 60 = true := by kernel_rfl
@[simp] theorem szT_61 : szT Try.prog 61 = some 1 := by kernel_rfl
@[simp] theorem byT_61 : byT Try.prog 61 = some 8 := by kernel_rfl
@[simp] theorem aggT_61 : aggT Try.prog 61 = some false := by kernel_rfl
@[simp] theorem zeroT_61 : zeroT Try.prog 61 = some [.nilFunc] := by kernel_rfl
@[simp] theorem eqK_61 : eqK Try.prog 61 = .func := by kernel_rfl
@[simp] theorem concT_61 : concT Try.prog 61 = true := by kernel_rfl
@[simp] theorem nintT_61 : nintT Try.prog 61 = true := by kernel_rfl
@[simp] theorem szT_62 : szT Try.prog 62 = some 1 := by kernel_rfl
@[simp] theorem byT_62 : byT Try.prog 62 = some 8 := by kernel_rfl
@[simp] theorem aggT_62 : aggT Try.prog 62 = some false := by kernel_rfl
@[simp] theorem zeroT_62 : zeroT Try.prog 62 = some [.nilFunc] := by kernel_rfl
@[simp] theorem eqK_62 : eqK Try.prog 62 = .func := by kernel_rfl
@[simp] theorem concT_62 : concT Try.prog 62 = true := by kernel_rfl
@[simp] theorem nintT_62 : nintT Try.prog 62 = true := by kernel_rfl
@[simp] theorem szT_63 : szT Try.prog 63 = some 1 := by kernel_rfl
@[simp] theorem byT_63 : byT Try.prog 63 = some 8 := by kernel_rfl
@[simp] theorem aggT_63 : aggT Try.prog 63 = some false := by kernel_rfl
@[simp] theorem zeroT_63 : zeroT Try.prog 63 = some [.nilmap] := by kernel_rfl
@[simp] theorem lenK_63 : lenK Try.prog 63 = .map := by kernel_rfl
@[simp] theorem eqK_63 : eqK Try.prog 63 = .map := by kernel_rfl
@[simp] theorem concT_63 : concT Try.prog 63 = true := by kernel_rfl
@[simp] theorem nintT_63 : nintT Try.prog 63 = true := by kernel_rfl
@[simp] theorem szT_64 : szT Try.prog 64 = some 3 := by kernel_rfl
@[simp] theorem byT_64 : byT Try.prog 64 = some 40 := by kernel_rfl
@[simp] theorem aggT_64 : aggT Try.prog 64 = some true := by kernel_rfl
@[simp] theorem zeroT_64 : zeroT Try.prog 64 = some [.nilmap, .nilmap, .nilslice] := by kernel_rfl
@[simp] theorem fieldsT_64_0 : fieldsT Try.prog 64 0 = some (0, 63) := by kernel_rfl
@[simp] theorem fieldO_64_0 : fieldO Try.prog 64 0 = some 0 := by kernel_rfl
@[simp] theorem fieldsT_64_1 : fieldsT Try.prog 64 1 = some (1, 63) := by kernel_rfl
@[simp] theorem fieldO_64_1 : fieldO Try.prog 64 1 = some 1 := by kernel_rfl
@[simp] theorem fieldsT_64_2 : fieldsT Try.prog 64 2 = some (2, 22) := by kernel_rfl
@[simp] theorem fieldO_64_2 : fieldO Try.prog 64 2 = some 2 := by kernel_rfl
@[simp] theorem placesT_64 : placesT Try.prog 64 = some [(0, 1), (1, 1), (2, 1)] := by kernel_rfl
@[simp] theorem arrT_64 : arrT Try.prog 64 = none := by kernel_rfl
@[simp] theorem eqK_64 : eqK Try.prog 64 = .struct [(63, 0), (63, 1), (22, 2)] := by kernel_rfl
@[simp] theorem eqG_64 : Program.eqGuardType Try.prog (Program.depth Try.prog) 64 = false := by kernel_rfl
@[simp] theorem concT_64 : concT Try.prog 64 = true := by kernel_rfl
@[simp] theorem nintT_64 : nintT Try.prog 64 = true := by kernel_rfl
@[simp] theorem szT_65 : szT Try.prog 65 = some 3 := by kernel_rfl
@[simp] theorem byT_65 : byT Try.prog 65 = some 40 := by kernel_rfl
@[simp] theorem aggT_65 : aggT Try.prog 65 = some true := by kernel_rfl
@[simp] theorem zeroT_65 : zeroT Try.prog 65 = some [.nilmap, .nilmap, .nilslice] := by kernel_rfl
@[simp] theorem fieldsT_65_0 : fieldsT Try.prog 65 0 = some (0, 63) := by kernel_rfl
@[simp] theorem fieldO_65_0 : fieldO Try.prog 65 0 = some 0 := by kernel_rfl
@[simp] theorem fieldsT_65_1 : fieldsT Try.prog 65 1 = some (1, 63) := by kernel_rfl
@[simp] theorem fieldO_65_1 : fieldO Try.prog 65 1 = some 1 := by kernel_rfl
@[simp] theorem fieldsT_65_2 : fieldsT Try.prog 65 2 = some (2, 22) := by kernel_rfl
@[simp] theorem fieldO_65_2 : fieldO Try.prog 65 2 = some 2 := by kernel_rfl
@[simp] theorem placesT_65 : placesT Try.prog 65 = some [(0, 1), (1, 1), (2, 1)] := by kernel_rfl
@[simp] theorem arrT_65 : arrT Try.prog 65 = none := by kernel_rfl
@[simp] theorem eqK_65 : eqK Try.prog 65 = .struct [(63, 0), (63, 1), (22, 2)] := by kernel_rfl
@[simp] theorem eqG_65 : Program.eqGuardType Try.prog (Program.depth Try.prog) 65 = false := by kernel_rfl
@[simp] theorem concT_65 : concT Try.prog 65 = true := by kernel_rfl
@[simp] theorem nintT_65 : nintT Try.prog 65 = true := by kernel_rfl
@[simp] theorem szT_66 : szT Try.prog 66 = some 1 := by kernel_rfl
@[simp] theorem byT_66 : byT Try.prog 66 = some 8 := by kernel_rfl
@[simp] theorem aggT_66 : aggT Try.prog 66 = some false := by kernel_rfl
@[simp] theorem zeroT_66 : zeroT Try.prog 66 = some [.nilFunc] := by kernel_rfl
@[simp] theorem eqK_66 : eqK Try.prog 66 = .func := by kernel_rfl
@[simp] theorem concT_66 : concT Try.prog 66 = true := by kernel_rfl
@[simp] theorem nintT_66 : nintT Try.prog 66 = true := by kernel_rfl
@[simp] theorem szT_68 : szT Try.prog 68 = some 1 := by kernel_rfl
@[simp] theorem byT_68 : byT Try.prog 68 = some 8 := by kernel_rfl
@[simp] theorem aggT_68 : aggT Try.prog 68 = some false := by kernel_rfl
@[simp] theorem zeroT_68 : zeroT Try.prog 68 = some [.nilFunc] := by kernel_rfl
@[simp] theorem eqK_68 : eqK Try.prog 68 = .func := by kernel_rfl
@[simp] theorem concT_68 : concT Try.prog 68 = true := by kernel_rfl
@[simp] theorem nintT_68 : nintT Try.prog 68 = true := by kernel_rfl
@[simp] theorem szT_69 : szT Try.prog 69 = some 1 := by kernel_rfl
@[simp] theorem byT_69 : byT Try.prog 69 = some 8 := by kernel_rfl
@[simp] theorem aggT_69 : aggT Try.prog 69 = some false := by kernel_rfl
@[simp] theorem zeroT_69 : zeroT Try.prog 69 = some [.int .u64 0] := by kernel_rfl
@[simp] theorem eqK_69 : eqK Try.prog 69 = .int := by kernel_rfl
@[simp] theorem concT_69 : concT Try.prog 69 = true := by kernel_rfl
@[simp] theorem szT_70 : szT Try.prog 70 = some 6 := by kernel_rfl
@[simp] theorem byT_70 : byT Try.prog 70 = some 48 := by kernel_rfl
@[simp] theorem aggT_70 : aggT Try.prog 70 = some true := by kernel_rfl
@[simp] theorem zeroT_70 : zeroT Try.prog 70 = some [.int .i64 0, .int .i64 0, .int .i64 0, .int .i64 0, .int .i64 0, .int .i64 0] := by kernel_rfl
@[simp] theorem fieldsT_70_0 : fieldsT Try.prog 70 0 = some (0, 2) := by kernel_rfl
@[simp] theorem fieldO_70_0 : fieldO Try.prog 70 0 = some 0 := by kernel_rfl
@[simp] theorem fieldsT_70_1 : fieldsT Try.prog 70 1 = some (1, 3) := by kernel_rfl
@[simp] theorem fieldO_70_1 : fieldO Try.prog 70 1 = some 1 := by kernel_rfl
@[simp] theorem fieldsT_70_2 : fieldsT Try.prog 70 2 = some (2, 2) := by kernel_rfl
@[simp] theorem fieldO_70_2 : fieldO Try.prog 70 2 = some 2 := by kernel_rfl
@[simp] theorem fieldsT_70_3 : fieldsT Try.prog 70 3 = some (3, 3) := by kernel_rfl
@[simp] theorem fieldO_70_3 : fieldO Try.prog 70 3 = some 3 := by kernel_rfl
@[simp] theorem fieldsT_70_4 : fieldsT Try.prog 70 4 = some (4, 3) := by kernel_rfl
@[simp] theorem fieldO_70_4 : fieldO Try.prog 70 4 = some 4 := by kernel_rfl
@[simp] theorem fieldsT_70_5 : fieldsT Try.prog 70 5 = some (5, 3) := by kernel_rfl
@[simp] theorem fieldO_70_5 : fieldO Try.prog 70 5 = some 5 := by kernel_rfl
@[simp] theorem placesT_70 : placesT Try.prog 70 = some [(0, 1), (1, 1), (2, 1), (3, 1), (4, 1), (5, 1)] := by kernel_rfl
@[simp] theorem arrT_70 : arrT Try.prog 70 = none := by kernel_rfl
@[simp] theorem eqK_70 : eqK Try.prog 70 = .struct [(2, 0), (3, 1), (2, 2), (3, 3), (3, 4), (3, 5)] := by kernel_rfl
@[simp] theorem eqG_70 : Program.eqGuardType Try.prog (Program.depth Try.prog) 70 = false := by kernel_rfl
@[simp] theorem concT_70 : concT Try.prog 70 = true := by kernel_rfl
@[simp] theorem nintT_70 : nintT Try.prog 70 = true := by kernel_rfl
@[simp] theorem szT_71 : szT Try.prog 71 = some 6 := by kernel_rfl
@[simp] theorem byT_71 : byT Try.prog 71 = some 48 := by kernel_rfl
@[simp] theorem aggT_71 : aggT Try.prog 71 = some true := by kernel_rfl
@[simp] theorem zeroT_71 : zeroT Try.prog 71 = some [.int .i64 0, .int .i64 0, .int .i64 0, .int .i64 0, .int .i64 0, .int .i64 0] := by kernel_rfl
@[simp] theorem fieldsT_71_0 : fieldsT Try.prog 71 0 = some (0, 2) := by kernel_rfl
@[simp] theorem fieldO_71_0 : fieldO Try.prog 71 0 = some 0 := by kernel_rfl
@[simp] theorem fieldsT_71_1 : fieldsT Try.prog 71 1 = some (1, 3) := by kernel_rfl
@[simp] theorem fieldO_71_1 : fieldO Try.prog 71 1 = some 1 := by kernel_rfl
@[simp] theorem fieldsT_71_2 : fieldsT Try.prog 71 2 = some (2, 2) := by kernel_rfl
@[simp] theorem fieldO_71_2 : fieldO Try.prog 71 2 = some 2 := by kernel_rfl
@[simp] theorem fieldsT_71_3 : fieldsT Try.prog 71 3 = some (3, 3) := by kernel_rfl
@[simp] theorem fieldO_71_3 : fieldO Try.prog 71 3 = some 3 := by kernel_rfl
@[simp] theorem fieldsT_71_4 : fieldsT Try.prog 71 4 = some (4, 3) := by kernel_rfl
@[simp] theorem fieldO_71_4 : fieldO Try.prog 71 4 = some 4 := by kernel_rfl
@[simp] theorem fieldsT_71_5 : fieldsT Try.prog 71 5 = some (5, 3) := by kernel_rfl
@[simp] theorem fieldO_71_5 : fieldO Try.prog 71 5 = some 5 := by kernel_rfl
@[simp] theorem placesT_71 : placesT Try.prog 71 = some [(0, 1), (1, 1), (2, 1), (3, 1), (4, 1), (5, 1)] := by kernel_rfl
@[simp] theorem arrT_71 : arrT Try.prog 71 = none := by kernel_rfl
@[simp] theorem eqK_71 : eqK Try.prog 71 = .struct [(2, 0), (3, 1), (2, 2), (3, 3), (3, 4), (3, 5)] := by kernel_rfl
@[simp] theorem eqG_71 : Program.eqGuardType Try.prog (Program.depth Try.prog) 71 = false := by kernel_rfl
@[simp] theorem concT_71 : concT Try.prog 71 = true := by kernel_rfl
@[simp] theorem nintT_71 : nintT Try.prog 71 = true := by kernel_rfl
@[simp] theorem szT_72 : szT Try.prog 72 = some 1 := by kernel_rfl
@[simp] theorem byT_72 : byT Try.prog 72 = some 8 := by kernel_rfl
@[simp] theorem aggT_72 : aggT Try.prog 72 = some false := by kernel_rfl
@[simp] theorem zeroT_72 : zeroT Try.prog 72 = some [.nilFunc] := by kernel_rfl
@[simp] theorem eqK_72 : eqK Try.prog 72 = .func := by kernel_rfl
@[simp] theorem concT_72 : concT Try.prog 72 = true := by kernel_rfl
@[simp] theorem nintT_72 : nintT Try.prog 72 = true := by kernel_rfl
@[simp] theorem szT_73 : szT Try.prog 73 = some 1 := by kernel_rfl
@[simp] theorem byT_73 : byT Try.prog 73 = some 8 := by kernel_rfl
@[simp] theorem aggT_73 : aggT Try.prog 73 = some false := by kernel_rfl
@[simp] theorem zeroT_73 : zeroT Try.prog 73 = some [.nilFunc] := by kernel_rfl
@[simp] theorem eqK_73 : eqK Try.prog 73 = .func := by kernel_rfl
@[simp] theorem concT_73 : concT Try.prog 73 = true := by kernel_rfl
@[simp] theorem nintT_73 : nintT Try.prog 73 = true := by kernel_rfl
@[simp] theorem szT_74 : szT Try.prog 74 = some 1 := by kernel_rfl
@[simp] theorem byT_74 : byT Try.prog 74 = some 8 := by kernel_rfl
@[simp] theorem aggT_74 : aggT Try.prog 74 = some false := by kernel_rfl
@[simp] theorem zeroT_74 : zeroT Try.prog 74 = some [.nilFunc] := by kernel_rfl
@[simp] theorem eqK_74 : eqK Try.prog 74 = .func := by kernel_rfl
@[simp] theorem concT_74 : concT Try.prog 74 = true := by kernel_rfl
@[simp] theorem nintT_74 : nintT Try.prog 74 = true := by kernel_rfl
@[simp] theorem szT_75 : szT Try.prog 75 = some 1 := by kernel_rfl
@[simp] theorem byT_75 : byT Try.prog 75 = some 8 := by kernel_rfl
@[simp] theorem aggT_75 : aggT Try.prog 75 = some false := by kernel_rfl
@[simp] theorem zeroT_75 : zeroT Try.prog 75 = some [.nilFunc] := by kernel_rfl
@[simp] theorem eqK_75 : eqK Try.prog 75 = .func := by kernel_rfl
@[simp] theorem concT_75 : concT Try.prog 75 = true := by kernel_rfl
@[simp] theorem nintT_75 : nintT Try.prog 75 = true := by kernel_rfl
@[simp] theorem szT_76 : szT Try.prog 76 = some 1 := by kernel_rfl
@[simp] theorem byT_76 : byT Try.prog 76 = some 24 := by kernel_rfl
@[simp] theorem aggT_76 : aggT Try.prog 76 = some false := by kernel_rfl
@[simp] theorem zeroT_76 : zeroT Try.prog 76 = some [.nilslice] := by kernel_rfl
@[simp] theorem sliT_76 : sliT Try.prog 76 = some 36 := by kernel_rfl
@[simp] theorem lenK_76 : lenK Try.prog 76 = .slice := by kernel_rfl
@[simp] theorem eqK_76 : eqK Try.prog 76 = .slice := by kernel_rfl
@[simp] theorem arrT_76 : arrT Try.prog 76 = none := by kernel_rfl
@[simp] theorem concT_76 : concT Try.prog 76 = true := by kernel_rfl
@[simp] theorem nintT_76 : nintT Try.prog 76 = true := by kernel_rfl
@[simp] theorem szT_78 : szT Try.prog 78 = some 1 := by kernel_rfl
@[simp] theorem byT_78 : byT Try.prog 78 = some 8 := by kernel_rfl
@[simp] theorem aggT_78 : aggT Try.prog 78 = some false := by kernel_rfl
@[simp] theorem zeroT_78 : zeroT Try.prog 78 = some [.nilFunc] := by kernel_rfl
@[simp] theorem eqK_78 : eqK Try.prog 78 = .func := by kernel_rfl
@[simp] theorem concT_78 : concT Try.prog 78 = true := by kernel_rfl
@[simp] theorem nintT_78 : nintT Try.prog 78 = true := by kernel_rfl
@[simp] theorem szT_79 : szT Try.prog 79 = some 1 := by kernel_rfl
@[simp] theorem byT_79 : byT Try.prog 79 = some 8 := by kernel_rfl
@[simp] theorem aggT_79 : aggT Try.prog 79 = some false := by kernel_rfl
@[simp] theorem zeroT_79 : zeroT Try.prog 79 = some [.nilFunc] := by kernel_rfl
@[simp] theorem eqK_79 : eqK Try.prog 79 = .func := by kernel_rfl
@[simp] theorem concT_79 : concT Try.prog 79 = true := by kernel_rfl
@[simp] theorem nintT_79 : nintT Try.prog 79 = true := by kernel_rfl
@[simp] theorem szT_80 : szT Try.prog 80 = some 1 := by kernel_rfl
@[simp] theorem byT_80 : byT Try.prog 80 = some 8 := by kernel_rfl
@[simp] theorem aggT_80 : aggT Try.prog 80 = some false := by kernel_rfl
@[simp] theorem zeroT_80 : zeroT Try.prog 80 = some [.nilFunc] := by kernel_rfl
@[simp] theorem eqK_80 : eqK Try.prog 80 = .func := by kernel_rfl
@[simp] theorem concT_80 : concT Try.prog 80 = true := by kernel_rfl
@[simp] theorem nintT_80 : nintT Try.prog 80 = true := by kernel_rfl
@[simp] theorem szT_81 : szT Try.prog 81 = some 1 := by kernel_rfl
@[simp] theorem byT_81 : byT Try.prog 81 = some 8 := by kernel_rfl
@[simp] theorem aggT_81 : aggT Try.prog 81 = some false := by kernel_rfl
@[simp] theorem zeroT_81 : zeroT Try.prog 81 = some [.nilFunc] := by kernel_rfl
@[simp] theorem eqK_81 : eqK Try.prog 81 = .func := by kernel_rfl
@[simp] theorem concT_81 : concT Try.prog 81 = true := by kernel_rfl
@[simp] theorem nintT_81 : nintT Try.prog 81 = true := by kernel_rfl
@[simp] theorem szT_82 : szT Try.prog 82 = some 1 := by kernel_rfl
@[simp] theorem byT_82 : byT Try.prog 82 = some 8 := by kernel_rfl
@[simp] theorem aggT_82 : aggT Try.prog 82 = some false := by kernel_rfl
@[simp] theorem zeroT_82 : zeroT Try.prog 82 = some [.nilptr] := by kernel_rfl
@[simp] theorem eqK_82 : eqK Try.prog 82 = .pointer := by kernel_rfl
@[simp] theorem concT_82 : concT Try.prog 82 = true := by kernel_rfl
@[simp] theorem nintT_82 : nintT Try.prog 82 = true := by kernel_rfl
@[simp] theorem szT_83 : szT Try.prog 83 = some 1 := by kernel_rfl
@[simp] theorem byT_83 : byT Try.prog 83 = some 8 := by kernel_rfl
@[simp] theorem aggT_83 : aggT Try.prog 83 = some false := by kernel_rfl
@[simp] theorem zeroT_83 : zeroT Try.prog 83 = some [.nilFunc] := by kernel_rfl
@[simp] theorem eqK_83 : eqK Try.prog 83 = .func := by kernel_rfl
@[simp] theorem concT_83 : concT Try.prog 83 = true := by kernel_rfl
@[simp] theorem nintT_83 : nintT Try.prog 83 = true := by kernel_rfl
@[simp] theorem szT_84 : szT Try.prog 84 = some 1 := by kernel_rfl
@[simp] theorem byT_84 : byT Try.prog 84 = some 8 := by kernel_rfl
@[simp] theorem aggT_84 : aggT Try.prog 84 = some false := by kernel_rfl
@[simp] theorem zeroT_84 : zeroT Try.prog 84 = some [.nilFunc] := by kernel_rfl
@[simp] theorem eqK_84 : eqK Try.prog 84 = .func := by kernel_rfl
@[simp] theorem concT_84 : concT Try.prog 84 = true := by kernel_rfl
@[simp] theorem nintT_84 : nintT Try.prog 84 = true := by kernel_rfl
@[simp] theorem szT_86 : szT Try.prog 86 = some 1 := by kernel_rfl
@[simp] theorem byT_86 : byT Try.prog 86 = some 8 := by kernel_rfl
@[simp] theorem aggT_86 : aggT Try.prog 86 = some false := by kernel_rfl
@[simp] theorem zeroT_86 : zeroT Try.prog 86 = some [.nilFunc] := by kernel_rfl
@[simp] theorem eqK_86 : eqK Try.prog 86 = .func := by kernel_rfl
@[simp] theorem concT_86 : concT Try.prog 86 = true := by kernel_rfl
@[simp] theorem nintT_86 : nintT Try.prog 86 = true := by kernel_rfl
@[simp] theorem szT_87 : szT Try.prog 87 = some 1 := by kernel_rfl
@[simp] theorem byT_87 : byT Try.prog 87 = some 8 := by kernel_rfl
@[simp] theorem aggT_87 : aggT Try.prog 87 = some false := by kernel_rfl
@[simp] theorem zeroT_87 : zeroT Try.prog 87 = some [.nilFunc] := by kernel_rfl
@[simp] theorem eqK_87 : eqK Try.prog 87 = .func := by kernel_rfl
@[simp] theorem concT_87 : concT Try.prog 87 = true := by kernel_rfl
@[simp] theorem nintT_87 : nintT Try.prog 87 = true := by kernel_rfl
@[simp] theorem szT_88 : szT Try.prog 88 = some 1 := by kernel_rfl
@[simp] theorem byT_88 : byT Try.prog 88 = some 8 := by kernel_rfl
@[simp] theorem aggT_88 : aggT Try.prog 88 = some false := by kernel_rfl
@[simp] theorem zeroT_88 : zeroT Try.prog 88 = some [.nilFunc] := by kernel_rfl
@[simp] theorem eqK_88 : eqK Try.prog 88 = .func := by kernel_rfl
@[simp] theorem concT_88 : concT Try.prog 88 = true := by kernel_rfl
@[simp] theorem nintT_88 : nintT Try.prog 88 = true := by kernel_rfl
@[simp] theorem szT_89 : szT Try.prog 89 = some 1 := by kernel_rfl
@[simp] theorem byT_89 : byT Try.prog 89 = some 8 := by kernel_rfl
@[simp] theorem aggT_89 : aggT Try.prog 89 = some false := by kernel_rfl
@[simp] theorem zeroT_89 : zeroT Try.prog 89 = some [.nilptr] := by kernel_rfl
@[simp] theorem concT_89 : concT Try.prog 89 = true := by kernel_rfl
@[simp] theorem nintT_89 : nintT Try.prog 89 = true := by kernel_rfl
@[simp] theorem szT_90 : szT Try.prog 90 = some 1 := by kernel_rfl
@[simp] theorem byT_90 : byT Try.prog 90 = some 8 := by kernel_rfl
@[simp] theorem aggT_90 : aggT Try.prog 90 = some false := by kernel_rfl
@[simp] theorem zeroT_90 : zeroT Try.prog 90 = some [.nilFunc] := by kernel_rfl
@[simp] theorem eqK_90 : eqK Try.prog 90 = .func := by kernel_rfl
@[simp] theorem concT_90 : concT Try.prog 90 = true := by kernel_rfl
@[simp] theorem nintT_90 : nintT Try.prog 90 = true := by kernel_rfl
@[simp] theorem szT_91 : szT Try.prog 91 = some 1 := by kernel_rfl
@[simp] theorem byT_91 : byT Try.prog 91 = some 4 := by kernel_rfl
@[simp] theorem aggT_91 : aggT Try.prog 91 = some false := by kernel_rfl
@[simp] theorem zeroT_91 : zeroT Try.prog 91 = some [.int .u32 0] := by kernel_rfl
@[simp] theorem eqK_91 : eqK Try.prog 91 = .int := by kernel_rfl
@[simp] theorem concT_91 : concT Try.prog 91 = true := by kernel_rfl
@[simp] theorem szT_93 : szT Try.prog 93 = some 1 := by kernel_rfl
@[simp] theorem byT_93 : byT Try.prog 93 = some 8 := by kernel_rfl
@[simp] theorem aggT_93 : aggT Try.prog 93 = some false := by kernel_rfl
@[simp] theorem zeroT_93 : zeroT Try.prog 93 = some [.nilFunc] := by kernel_rfl
@[simp] theorem eqK_93 : eqK Try.prog 93 = .func := by kernel_rfl
@[simp] theorem concT_93 : concT Try.prog 93 = true := by kernel_rfl
@[simp] theorem nintT_93 : nintT Try.prog 93 = true := by kernel_rfl
@[simp] theorem szT_94 : szT Try.prog 94 = some 1 := by kernel_rfl
@[simp] theorem byT_94 : byT Try.prog 94 = some 8 := by kernel_rfl
@[simp] theorem aggT_94 : aggT Try.prog 94 = some false := by kernel_rfl
@[simp] theorem zeroT_94 : zeroT Try.prog 94 = some [.int .u64 0] := by kernel_rfl
@[simp] theorem eqK_94 : eqK Try.prog 94 = .int := by kernel_rfl
@[simp] theorem concT_94 : concT Try.prog 94 = true := by kernel_rfl
@[simp] theorem szT_96 : szT Try.prog 96 = some 1 := by kernel_rfl
@[simp] theorem byT_96 : byT Try.prog 96 = some 8 := by kernel_rfl
@[simp] theorem aggT_96 : aggT Try.prog 96 = some false := by kernel_rfl
@[simp] theorem zeroT_96 : zeroT Try.prog 96 = some [.nilFunc] := by kernel_rfl
@[simp] theorem eqK_96 : eqK Try.prog 96 = .func := by kernel_rfl
@[simp] theorem concT_96 : concT Try.prog 96 = true := by kernel_rfl
@[simp] theorem nintT_96 : nintT Try.prog 96 = true := by kernel_rfl
@[simp] theorem szT_97 : szT Try.prog 97 = some 1 := by kernel_rfl
@[simp] theorem byT_97 : byT Try.prog 97 = some 8 := by kernel_rfl
@[simp] theorem aggT_97 : aggT Try.prog 97 = some false := by kernel_rfl
@[simp] theorem zeroT_97 : zeroT Try.prog 97 = some [.nilFunc] := by kernel_rfl
@[simp] theorem eqK_97 : eqK Try.prog 97 = .func := by kernel_rfl
@[simp] theorem concT_97 : concT Try.prog 97 = true := by kernel_rfl
@[simp] theorem nintT_97 : nintT Try.prog 97 = true := by kernel_rfl
@[simp] theorem szT_98 : szT Try.prog 98 = some 1 := by kernel_rfl
@[simp] theorem byT_98 : byT Try.prog 98 = some 8 := by kernel_rfl
@[simp] theorem aggT_98 : aggT Try.prog 98 = some false := by kernel_rfl
@[simp] theorem zeroT_98 : zeroT Try.prog 98 = some [.nilFunc] := by kernel_rfl
@[simp] theorem eqK_98 : eqK Try.prog 98 = .func := by kernel_rfl
@[simp] theorem concT_98 : concT Try.prog 98 = true := by kernel_rfl
@[simp] theorem nintT_98 : nintT Try.prog 98 = true := by kernel_rfl
@[simp] theorem szT_99 : szT Try.prog 99 = some 1 := by kernel_rfl
@[simp] theorem byT_99 : byT Try.prog 99 = some 8 := by kernel_rfl
@[simp] theorem aggT_99 : aggT Try.prog 99 = some false := by kernel_rfl
@[simp] theorem zeroT_99 : zeroT Try.prog 99 = some [.nilFunc] := by kernel_rfl
@[simp] theorem eqK_99 : eqK Try.prog 99 = .func := by kernel_rfl
@[simp] theorem concT_99 : concT Try.prog 99 = true := by kernel_rfl
@[simp] theorem nintT_99 : nintT Try.prog 99 = true := by kernel_rfl
@[simp] theorem szT_100 : szT Try.prog 100 = some 1 := by kernel_rfl
@[simp] theorem byT_100 : byT Try.prog 100 = some 8 := by kernel_rfl
@[simp] theorem aggT_100 : aggT Try.prog 100 = some false := by kernel_rfl
@[simp] theorem zeroT_100 : zeroT Try.prog 100 = some [.nilFunc] := by kernel_rfl
@[simp] theorem eqK_100 : eqK Try.prog 100 = .func := by kernel_rfl
@[simp] theorem concT_100 : concT Try.prog 100 = true := by kernel_rfl
@[simp] theorem nintT_100 : nintT Try.prog 100 = true := by kernel_rfl
@[simp] theorem szT_101 : szT Try.prog 101 = some 1 := by kernel_rfl
@[simp] theorem byT_101 : byT Try.prog 101 = some 8 := by kernel_rfl
@[simp] theorem aggT_101 : aggT Try.prog 101 = some false := by kernel_rfl
@[simp] theorem zeroT_101 : zeroT Try.prog 101 = some [.nilFunc] := by kernel_rfl
@[simp] theorem eqK_101 : eqK Try.prog 101 = .func := by kernel_rfl
@[simp] theorem concT_101 : concT Try.prog 101 = true := by kernel_rfl
@[simp] theorem nintT_101 : nintT Try.prog 101 = true := by kernel_rfl
@[simp] theorem szT_102 : szT Try.prog 102 = some 1 := by kernel_rfl
@[simp] theorem byT_102 : byT Try.prog 102 = some 8 := by kernel_rfl
@[simp] theorem aggT_102 : aggT Try.prog 102 = some false := by kernel_rfl
@[simp] theorem zeroT_102 : zeroT Try.prog 102 = some [.int .i64 0] := by kernel_rfl
@[simp] theorem eqK_102 : eqK Try.prog 102 = .int := by kernel_rfl
@[simp] theorem concT_102 : concT Try.prog 102 = true := by kernel_rfl
@[simp] theorem szT_104 : szT Try.prog 104 = some 1 := by kernel_rfl
@[simp] theorem byT_104 : byT Try.prog 104 = some 8 := by kernel_rfl
@[simp] theorem aggT_104 : aggT Try.prog 104 = some false := by kernel_rfl
@[simp] theorem zeroT_104 : zeroT Try.prog 104 = some [.nilFunc] := by kernel_rfl
@[simp] theorem eqK_104 : eqK Try.prog 104 = .func := by kernel_rfl
@[simp] theorem concT_104 : concT Try.prog 104 = true := by kernel_rfl
@[simp] theorem nintT_104 : nintT Try.prog 104 = true := by kernel_rfl
@[simp] theorem szT_105 : szT Try.prog 105 = some 1 := by kernel_rfl
@[simp] theorem byT_105 : byT Try.prog 105 = some 8 := by kernel_rfl
@[simp] theorem aggT_105 : aggT Try.prog 105 = some false := by kernel_rfl
@[simp] theorem zeroT_105 : zeroT Try.prog 105 = some [.nilFunc] := by kernel_rfl
@[simp] theorem eqK_105 : eqK Try.prog 105 = .func := by kernel_rfl
@[simp] theorem concT_105 : concT Try.prog 105 = true := by kernel_rfl
@[simp] theorem nintT_105 : nintT Try.prog 105 = true := by kernel_rfl
@[simp] theorem szT_106 : szT Try.prog 106 = some 1 := by kernel_rfl
@[simp] theorem byT_106 : byT Try.prog 106 = some 8 := by kernel_rfl
@[simp] theorem aggT_106 : aggT Try.prog 106 = some false := by kernel_rfl
@[simp] theorem zeroT_106 : zeroT Try.prog 106 = some [.nilFunc] := by kernel_rfl
@[simp] theorem eqK_106 : eqK Try.prog 106 = .func := by kernel_rfl
@[simp] theorem concT_106 : concT Try.prog 106 = true := by kernel_rfl
@[simp] theorem nintT_106 : nintT Try.prog 106 = true := by kernel_rfl
@[simp] theorem szT_107 : szT Try.prog 107 = some 1 := by kernel_rfl
@[simp] theorem byT_107 : byT Try.prog 107 = some 8 := by kernel_rfl
@[simp] theorem aggT_107 : aggT Try.prog 107 = some false := by kernel_rfl
@[simp] theorem zeroT_107 : zeroT Try.prog 107 = some [.nilFunc] := by kernel_rfl
@[simp] theorem eqK_107 : eqK Try.prog 107 = .func := by kernel_rfl
@[simp] theorem concT_107 : concT Try.prog 107 = true := by kernel_rfl
@[simp] theorem nintT_107 : nintT Try.prog 107 = true := by kernel_rfl
@[simp] theorem szT_109 : szT Try.prog 109 = some 1 := by kernel_rfl
@[simp] theorem byT_109 : byT Try.prog 109 = some 8 := by kernel_rfl
@[simp] theorem aggT_109 : aggT Try.prog 109 = some false := by kernel_rfl
@[simp] theorem zeroT_109 : zeroT Try.prog 109 = some [.nilFunc] := by kernel_rfl
@[simp] theorem eqK_109 : eqK Try.prog 109 = .func := by kernel_rfl
@[simp] theorem concT_109 : concT Try.prog 109 = true := by kernel_rfl
@[simp] theorem nintT_109 : nintT Try.prog 109 = true := by kernel_rfl
@[simp] theorem szT_110 : szT Try.prog 110 = some 1 := by kernel_rfl
@[simp] theorem byT_110 : byT Try.prog 110 = some 8 := by kernel_rfl
@[simp] theorem aggT_110 : aggT Try.prog 110 = some false := by kernel_rfl
@[simp] theorem zeroT_110 : zeroT Try.prog 110 = some [.nilFunc] := by kernel_rfl
@[simp] theorem eqK_110 : eqK Try.prog 110 = .func := by kernel_rfl
@[simp] theorem concT_110 : concT Try.prog 110 = true := by kernel_rfl
@[simp] theorem nintT_110 : nintT Try.prog 110 = true := by kernel_rfl
@[simp] theorem szT_111 : szT Try.prog 111 = some 1 := by kernel_rfl
@[simp] theorem byT_111 : byT Try.prog 111 = some 8 := by kernel_rfl
@[simp] theorem aggT_111 : aggT Try.prog 111 = some false := by kernel_rfl
@[simp] theorem zeroT_111 : zeroT Try.prog 111 = some [.nilFunc] := by kernel_rfl
@[simp] theorem eqK_111 : eqK Try.prog 111 = .func := by kernel_rfl
@[simp] theorem concT_111 : concT Try.prog 111 = true := by kernel_rfl
@[simp] theorem nintT_111 : nintT Try.prog 111 = true := by kernel_rfl
@[simp] theorem szT_112 : szT Try.prog 112 = some 1 := by kernel_rfl
@[simp] theorem byT_112 : byT Try.prog 112 = some 8 := by kernel_rfl
@[simp] theorem aggT_112 : aggT Try.prog 112 = some false := by kernel_rfl
@[simp] theorem zeroT_112 : zeroT Try.prog 112 = some [.nilFunc] := by kernel_rfl
@[simp] theorem eqK_112 : eqK Try.prog 112 = .func := by kernel_rfl
@[simp] theorem concT_112 : concT Try.prog 112 = true := by kernel_rfl
@[simp] theorem nintT_112 : nintT Try.prog 112 = true := by kernel_rfl
@[simp] theorem szT_113 : szT Try.prog 113 = some 1 := by kernel_rfl
@[simp] theorem byT_113 : byT Try.prog 113 = some 24 := by kernel_rfl
@[simp] theorem aggT_113 : aggT Try.prog 113 = some false := by kernel_rfl
@[simp] theorem zeroT_113 : zeroT Try.prog 113 = some [.nilslice] := by kernel_rfl
@[simp] theorem sliT_113 : sliT Try.prog 113 = some 3 := by kernel_rfl
@[simp] theorem lenK_113 : lenK Try.prog 113 = .slice := by kernel_rfl
@[simp] theorem eqK_113 : eqK Try.prog 113 = .slice := by kernel_rfl
@[simp] theorem arrT_113 : arrT Try.prog 113 = none := by kernel_rfl
@[simp] theorem concT_113 : concT Try.prog 113 = true := by kernel_rfl
@[simp] theorem nintT_113 : nintT Try.prog 113 = true := by kernel_rfl
@[simp] theorem szT_114 : szT Try.prog 114 = some 1 := by kernel_rfl
@[simp] theorem byT_114 : byT Try.prog 114 = some 8 := by kernel_rfl
@[simp] theorem aggT_114 : aggT Try.prog 114 = some false := by kernel_rfl
@[simp] theorem zeroT_114 : zeroT Try.prog 114 = some [.nilFunc] := by kernel_rfl
@[simp] theorem eqK_114 : eqK Try.prog 114 = .func := by kernel_rfl
@[simp] theorem concT_114 : concT Try.prog 114 = true := by kernel_rfl
@[simp] theorem nintT_114 : nintT Try.prog 114 = true := by kernel_rfl
@[simp] theorem szT_115 : szT Try.prog 115 = some 1 := by kernel_rfl
@[simp] theorem byT_115 : byT Try.prog 115 = some 8 := by kernel_rfl
@[simp] theorem aggT_115 : aggT Try.prog 115 = some false := by kernel_rfl
@[simp] theorem zeroT_115 : zeroT Try.prog 115 = some [.int .u64 0] := by kernel_rfl
@[simp] theorem eqK_115 : eqK Try.prog 115 = .int := by kernel_rfl
@[simp] theorem concT_115 : concT Try.prog 115 = true := by kernel_rfl
@[simp] theorem szT_116 : szT Try.prog 116 = some 1 := by kernel_rfl
@[simp] theorem byT_116 : byT Try.prog 116 = some 8 := by kernel_rfl
@[simp] theorem aggT_116 : aggT Try.prog 116 = some false := by kernel_rfl
@[simp] theorem zeroT_116 : zeroT Try.prog 116 = some [.nilFunc] := by kernel_rfl
@[simp] theorem eqK_116 : eqK Try.prog 116 = .func := by kernel_rfl
@[simp] theorem concT_116 : concT Try.prog 116 = true := by kernel_rfl
@[simp] theorem nintT_116 : nintT Try.prog 116 = true := by kernel_rfl
@[simp] theorem szT_117 : szT Try.prog 117 = some 1 := by kernel_rfl
@[simp] theorem byT_117 : byT Try.prog 117 = some 8 := by kernel_rfl
@[simp] theorem aggT_117 : aggT Try.prog 117 = some false := by kernel_rfl
@[simp] theorem zeroT_117 : zeroT Try.prog 117 = some [.nilFunc] := by kernel_rfl
@[simp] theorem eqK_117 : eqK Try.prog 117 = .func := by kernel_rfl
@[simp] theorem concT_117 : concT Try.prog 117 = true := by kernel_rfl
@[simp] theorem nintT_117 : nintT Try.prog 117 = true := by kernel_rfl
@[simp] theorem szT_118 : szT Try.prog 118 = some 1 := by kernel_rfl
@[simp] theorem byT_118 : byT Try.prog 118 = some 8 := by kernel_rfl
@[simp] theorem aggT_118 : aggT Try.prog 118 = some false := by kernel_rfl
@[simp] theorem zeroT_118 : zeroT Try.prog 118 = some [.nilFunc] := by kernel_rfl
@[simp] theorem eqK_118 : eqK Try.prog 118 = .func := by kernel_rfl
@[simp] theorem concT_118 : concT Try.prog 118 = true := by kernel_rfl
@[simp] theorem nintT_118 : nintT Try.prog 118 = true := by kernel_rfl
@[simp] theorem szT_119 : szT Try.prog 119 = some 1 := by kernel_rfl
@[simp] theorem byT_119 : byT Try.prog 119 = some 8 := by kernel_rfl
@[simp] theorem aggT_119 : aggT Try.prog 119 = some false := by kernel_rfl
@[simp] theorem zeroT_119 : zeroT Try.prog 119 = some [.nilptr] := by kernel_rfl
@[simp] theorem eqK_119 : eqK Try.prog 119 = .pointer := by kernel_rfl
@[simp] theorem concT_119 : concT Try.prog 119 = true := by kernel_rfl
@[simp] theorem nintT_119 : nintT Try.prog 119 = true := by kernel_rfl
@[simp] theorem szT_120 : szT Try.prog 120 = some 1 := by kernel_rfl
@[simp] theorem byT_120 : byT Try.prog 120 = some 8 := by kernel_rfl
@[simp] theorem aggT_120 : aggT Try.prog 120 = some false := by kernel_rfl
@[simp] theorem zeroT_120 : zeroT Try.prog 120 = some [.nilFunc] := by kernel_rfl
@[simp] theorem eqK_120 : eqK Try.prog 120 = .func := by kernel_rfl
@[simp] theorem concT_120 : concT Try.prog 120 = true := by kernel_rfl
@[simp] theorem nintT_120 : nintT Try.prog 120 = true := by kernel_rfl
@[simp] theorem szT_121 : szT Try.prog 121 = some 1 := by kernel_rfl
@[simp] theorem byT_121 : byT Try.prog 121 = some 8 := by kernel_rfl
@[simp] theorem aggT_121 : aggT Try.prog 121 = some false := by kernel_rfl
@[simp] theorem zeroT_121 : zeroT Try.prog 121 = some [.nilptr] := by kernel_rfl
@[simp] theorem eqK_121 : eqK Try.prog 121 = .pointer := by kernel_rfl
@[simp] theorem concT_121 : concT Try.prog 121 = true := by kernel_rfl
@[simp] theorem nintT_121 : nintT Try.prog 121 = true := by kernel_rfl
@[simp] theorem szT_123 : szT Try.prog 123 = some 1 := by kernel_rfl
@[simp] theorem byT_123 : byT Try.prog 123 = some 8 := by kernel_rfl
@[simp] theorem aggT_123 : aggT Try.prog 123 = some false := by kernel_rfl
@[simp] theorem zeroT_123 : zeroT Try.prog 123 = some [.nilFunc] := by kernel_rfl
@[simp] theorem eqK_123 : eqK Try.prog 123 = .func := by kernel_rfl
@[simp] theorem concT_123 : concT Try.prog 123 = true := by kernel_rfl
@[simp] theorem nintT_123 : nintT Try.prog 123 = true := by kernel_rfl
@[simp] theorem szT_124 : szT Try.prog 124 = some 4 := by kernel_rfl
@[simp] theorem byT_124 : byT Try.prog 124 = some 40 := by kernel_rfl
@[simp] theorem aggT_124 : aggT Try.prog 124 = some true := by kernel_rfl
@[simp] theorem zeroT_124 : zeroT Try.prog 124 = some [.nilptr, .nilptr, .nilptr, .str ⟨#[]⟩] := by kernel_rfl
@[simp] theorem fieldsT_124_0 : fieldsT Try.prog 124 0 = some (0, 17) := by kernel_rfl
@[simp] theorem fieldO_124_0 : fieldO Try.prog 124 0 = some 0 := by kernel_rfl
@[simp] theorem fieldsT_124_1 : fieldsT Try.prog 124 1 = some (1, 17) := by kernel_rfl
@[simp] theorem fieldO_124_1 : fieldO Try.prog 124 1 = some 1 := by kernel_rfl
@[simp] theorem fieldsT_124_2 : fieldsT Try.prog 124 2 = some (2, 17) := by kernel_rfl
@[simp] theorem fieldO_124_2 : fieldO Try.prog 124 2 = some 2 := by kernel_rfl
@[simp] theorem fieldsT_124_3 : fieldsT Try.prog 124 3 = some (3, 9) := by kernel_rfl
@[simp] theorem fieldO_124_3 : fieldO Try.prog 124 3 = some 3 := by kernel_rfl
@[simp] theorem placesT_124 : placesT Try.prog 124 = some [(0, 1), (1, 1), (2, 1), (3, 1)] := by kernel_rfl
@[simp] theorem arrT_124 : arrT Try.prog 124 = none := by kernel_rfl
@[simp] theorem eqG_124 : Program.eqGuardType Try.prog (Program.depth Try.prog) 124 = false := by kernel_rfl
@[simp] theorem concT_124 : concT Try.prog 124 = true := by kernel_rfl
@[simp] theorem nintT_124 : nintT Try.prog 124 = true := by kernel_rfl
@[simp] theorem szT_126 : szT Try.prog 126 = some 0 := by kernel_rfl
@[simp] theorem byT_126 : byT Try.prog 126 = some 0 := by kernel_rfl
@[simp] theorem aggT_126 : aggT Try.prog 126 = some true := by kernel_rfl
@[simp] theorem zeroT_126 : zeroT Try.prog 126 = some [] := by kernel_rfl
@[simp] theorem arrT_126 : arrT Try.prog 126 = some (0, 16) := by kernel_rfl
@[simp] theorem eqK_126 : eqK Try.prog 126 = .array 0 16 1 := by kernel_rfl
@[simp] theorem lenK_126 : lenK Try.prog 126 = .arr 0 := by kernel_rfl
@[simp] theorem eqG_126 : Program.eqGuardType Try.prog (Program.depth Try.prog) 126 = false := by kernel_rfl
@[simp] theorem concT_126 : concT Try.prog 126 = true := by kernel_rfl
@[simp] theorem nintT_126 : nintT Try.prog 126 = true := by kernel_rfl
@[simp] theorem szT_127 : szT Try.prog 127 = some 0 := by kernel_rfl
@[simp] theorem byT_127 : byT Try.prog 127 = some 0 := by kernel_rfl
@[simp] theorem aggT_127 : aggT Try.prog 127 = some true := by kernel_rfl
@[simp] theorem zeroT_127 : zeroT Try.prog 127 = some [] := by kernel_rfl
@[simp] theorem fieldsT_127_0 : fieldsT Try.prog 127 0 = some (0, 126) := by kernel_rfl
@[simp] theorem placesT_127 : placesT Try.prog 127 = some [(0, 0)] := by kernel_rfl
@[simp] theorem arrT_127 : arrT Try.prog 127 = none := by kernel_rfl
@[simp] theorem eqG_127 : Program.eqGuardType Try.prog (Program.depth Try.prog) 127 = false := by kernel_rfl
@[simp] theorem concT_127 : concT Try.prog 127 = true := by kernel_rfl
@[simp] theorem nintT_127 : nintT Try.prog 127 = true := by kernel_rfl
@[simp] theorem szT_131 : szT Try.prog 131 = some 1 := by kernel_rfl
@[simp] theorem byT_131 : byT Try.prog 131 = some 8 := by kernel_rfl
@[simp] theorem aggT_131 : aggT Try.prog 131 = some false := by kernel_rfl
@[simp] theorem zeroT_131 : zeroT Try.prog 131 = some [.nilFunc] := by kernel_rfl
@[simp] theorem eqK_131 : eqK Try.prog 131 = .func := by kernel_rfl
@[simp] theorem concT_131 : concT Try.prog 131 = true := by kernel_rfl
@[simp] theorem nintT_131 : nintT Try.prog 131 = true := by kernel_rfl
@[simp] theorem szT_134 : szT Try.prog 134 = some 11 := by kernel_rfl
@[simp] theorem byT_134 : byT Try.prog 134 = some 48 := by kernel_rfl
@[simp] theorem aggT_134 : aggT Try.prog 134 = some true := by kernel_rfl
@[simp] theorem zeroT_134 : zeroT Try.prog 134 = some [.int .u64 0, .int .u64 0, .int .u32 0, .int .u8 0, .int .u8 0, .int .u8 0, .int .u8 0, .nilFunc, .nilptr, .int .i32 0, .int .i32 0] := by kernel_rfl
@[simp] theorem fieldsT_134_0 : fieldsT Try.prog 134 0 = some (0, 12) := by kernel_rfl
@[simp] theorem fieldO_134_0 : fieldO Try.prog 134 0 = some 0 := by kernel_rfl
@[simp] theorem fieldsT_134_1 : fieldsT Try.prog 134 1 = some (1, 12) := by kernel_rfl
@[simp] theorem fieldO_134_1 : fieldO Try.prog 134 1 = some 1 := by kernel_rfl
@[simp] theorem fieldsT_134_2 : fieldsT Try.prog 134 2 = some (2, 91) := by kernel_rfl
@[simp] theorem fieldO_134_2 : fieldO Try.prog 134 2 = some 2 := by kernel_rfl
@[simp] theorem fieldsT_134_3 : fieldsT Try.prog 134 3 = some (3, 129) := by kernel_rfl
@[simp] theorem fieldO_134_3 : fieldO Try.prog 134 3 = some 3 := by kernel_rfl
@[simp] theorem fieldsT_134_4 : fieldsT Try.prog 134 4 = some (4, 5) := by kernel_rfl
@[simp] theorem fieldO_134_4 : fieldO Try.prog 134 4 = some 4 := by kernel_rfl
@[simp] theorem fieldsT_134_5 : fieldsT Try.prog 134 5 = some (5, 5) := by kernel_rfl
@[simp] theorem fieldO_134_5 : fieldO Try.prog 134 5 = some 5 := by kernel_rfl
@[simp] theorem fieldsT_134_6 : fieldsT Try.prog 134 6 = some (6, 130) := by kernel_rfl
@[simp] theorem fieldO_134_6 : fieldO Try.prog 134 6 = some 6 := by kernel_rfl
@[simp] theorem fieldsT_134_7 : fieldsT Try.prog 134 7 = some (7, 131) := by kernel_rfl
@[simp] theorem fieldO_134_7 : fieldO Try.prog 134 7 = some 7 := by kernel_rfl
@[simp] theorem fieldsT_134_8 : fieldsT Try.prog 134 8 = some (8, 82) := by kernel_rfl
@[simp] theorem fieldO_134_8 : fieldO Try.prog 134 8 = some 8 := by kernel_rfl
@[simp] theorem fieldsT_134_9 : fieldsT Try.prog 134 9 = some (9, 132) := by kernel_rfl
@[simp] theorem fieldO_134_9 : fieldO Try.prog 134 9 = some 9 := by kernel_rfl
@[simp] theorem fieldsT_134_10 : fieldsT Try.prog 134 10 = some (10, 133) := by kernel_rfl
@[simp] theorem fieldO_134_10 : fieldO Try.prog 134 10 = some 10 := by kernel_rfl
@[simp] theorem placesT_134 : placesT Try.prog 134 = some [(0, 1), (1, 1), (2, 1), (3, 1), (4, 1), (5, 1), (6, 1), (7, 1), (8, 1), (9, 1), (10, 1)] := by kernel_rfl
@[simp] theorem arrT_134 : arrT Try.prog 134 = none := by kernel_rfl
@[simp] theorem eqG_134 : Program.eqGuardType Try.prog (Program.depth Try.prog) 134 = false := by kernel_rfl
@[simp] theorem concT_134 : concT Try.prog 134 = true := by kernel_rfl
@[simp] theorem nintT_134 : nintT Try.prog 134 = true := by kernel_rfl
@[simp] theorem cvK_3_5 : cvK Try.prog 3 5 = .int .u8 := by kernel_rfl
@[simp] theorem cvK_3_69 : cvK Try.prog 3 69 = .int .u64 := by kernel_rfl
@[simp] theorem cvK_3_115 : cvK Try.prog 3 115 = .int .u64 := by kernel_rfl
@[simp] theorem cvK_5_3 : cvK Try.prog 5 3 = .int .i64 := by kernel_rfl
@[simp] theorem cvK_69_3 : cvK Try.prog 69 3 = .int .i64 := by kernel_rfl
@[simp] theorem cvK_69_91 : cvK Try.prog 69 91 = .int .u32 := by kernel_rfl
@[simp] theorem cvK_91_5 : cvK Try.prog 91 5 = .int .u8 := by kernel_rfl
@[simp] theorem cvK_91_69 : cvK Try.prog 91 69 = .int .u64 := by kernel_rfl
@[simp] theorem cvK_91_94 : cvK Try.prog 91 94 = .int .u64 := by kernel_rfl
@[simp] theorem cvK_94_5 : cvK Try.prog 94 5 = .int .u8 := by kernel_rfl
@[simp] theorem cvK_94_91 : cvK Try.prog 94 91 = .int .u32 := by kernel_rfl
@[simp] theorem callT_3 : callT Try.prog 3 = true := by kernel_rfl
@[simp] theorem callT_4 : callT Try.prog 4 = true := by kernel_rfl
@[simp] theorem callT_5 : callT Try.prog 5 = true := by kernel_rfl
@[simp] theorem callT_6 : callT Try.prog 6 = true := by kernel_rfl
@[simp] theorem callT_7 : callT Try.prog 7 = true := by kernel_rfl
@[simp] theorem callT_8 : callT Try.prog 8 = true := by kernel_rfl
@[simp] theorem callT_9 : callT Try.prog 9 = true := by kernel_rfl
@[simp] theorem callT_10 : callT Try.prog 10 = true := by kernel_rfl
@[simp] theorem callT_11 : callT Try.prog 11 = true := by kernel_rfl
@[simp] theorem callT_12 : callT Try.prog 12 = true := by kernel_rfl
@[simp] theorem callT_13 : callT Try.prog 13 = true := by kernel_rfl
@[simp] theorem callT_14 : callT Try.prog 14 = true := by kernel_rfl
@[simp] theorem callT_15 : callT Try.prog 15 = true := by kernel_rfl
@[simp] theorem callT_16 : callT Try.prog 16 = true := by kernel_rfl
@[simp] theorem callT_17 : callT Try.prog 17 = true := by kernel_rfl
@[simp] theorem callT_18 : callT Try.prog 18 = true := by kernel_rfl
@[simp] theorem callT_19 : callT Try.prog 19 = true := by kernel_rfl
@[simp] theorem callT_20 : callT Try.prog 20 = true := by kernel_rfl
@[simp] theorem callT_21 : callT Try.prog 21 = true := by kernel_rfl
@[simp] theorem callT_22 : callT Try.prog 22 = true := by kernel_rfl
@[simp] theorem callT_23 : callT Try.prog 23 = true := by kernel_rfl
@[simp] theorem callT_24 : callT Try.prog 24 = true := by kernel_rfl
@[simp] theorem callT_25 : callT Try.prog 25 = true := by kernel_rfl
@[simp] theorem callT_26 : callT Try.prog 26 = true := by kernel_rfl
@[simp] theorem callT_27 : callT Try.prog 27 = true := by kernel_rfl
@[simp] theorem callT_28 : callT Try.prog 28 = true := by kernel_rfl
@[simp] theorem callT_29 : callT Try.prog 29 = true := by kernel_rfl
@[simp] theorem callT_30 : callT Try.prog 30 = true := by kernel_rfl
@[simp] theorem callT_31 : callT Try.prog 31 = true := by kernel_rfl
@[simp] theorem callT_32 : callT Try.prog 32 = true := by kernel_rfl
@[simp] theorem callT_33 : callT Try.prog 33 = true := by kernel_rfl
@[simp] theorem callT_34 : callT Try.prog 34 = true := by kernel_rfl
@[simp] theorem callT_35 : callT Try.prog 35 = true := by kernel_rfl
@[simp] theorem callT_36 : callT Try.prog 36 = true := by kernel_rfl
@[simp] theorem callT_37 : callT Try.prog 37 = true := by kernel_rfl
@[simp] theorem callT_38 : callT Try.prog 38 = true := by kernel_rfl
@[simp] theorem callT_39 : callT Try.prog 39 = true := by kernel_rfl
@[simp] theorem callT_40 : callT Try.prog 40 = true := by kernel_rfl
@[simp] theorem callT_41 : callT Try.prog 41 = true := by kernel_rfl
@[simp] theorem callT_42 : callT Try.prog 42 = true := by kernel_rfl
@[simp] theorem callT_43 : callT Try.prog 43 = true := by kernel_rfl
@[simp] theorem callT_44 : callT Try.prog 44 = true := by kernel_rfl
@[simp] theorem callT_45 : callT Try.prog 45 = true := by kernel_rfl
@[simp] theorem callT_46 : callT Try.prog 46 = true := by kernel_rfl
@[simp] theorem callT_47 : callT Try.prog 47 = true := by kernel_rfl
@[simp] theorem callT_48 : callT Try.prog 48 = true := by kernel_rfl
@[simp] theorem callT_49 : callT Try.prog 49 = true := by kernel_rfl
@[simp] theorem callT_51 : callT Try.prog 51 = true := by kernel_rfl
@[simp] theorem callT_52 : callT Try.prog 52 = true := by kernel_rfl
@[simp] theorem callT_54 : callT Try.prog 54 = true := by kernel_rfl
@[simp] theorem callT_55 : callT Try.prog 55 = true := by kernel_rfl
@[simp] theorem callT_56 : callT Try.prog 56 = true := by kernel_rfl
@[simp] theorem callT_57 : callT Try.prog 57 = true := by kernel_rfl
@[simp] theorem callT_58 : callT Try.prog 58 = true := by kernel_rfl
@[simp] theorem callT_59 : callT Try.prog 59 = true := by kernel_rfl
@[simp] theorem callT_60 : callT Try.prog 60 = true := by kernel_rfl
@[simp] theorem callT_61 : callT Try.prog 61 = true := by kernel_rfl
@[simp] theorem callT_62 : callT Try.prog 62 = true := by kernel_rfl
@[simp] theorem callT_63 : callT Try.prog 63 = true := by kernel_rfl
@[simp] theorem callT_64 : callT Try.prog 64 = true := by kernel_rfl
@[simp] theorem callT_65 : callT Try.prog 65 = true := by kernel_rfl
@[simp] theorem callT_66 : callT Try.prog 66 = true := by kernel_rfl
@[simp] theorem callT_67 : callT Try.prog 67 = true := by kernel_rfl
@[simp] theorem callT_68 : callT Try.prog 68 = true := by kernel_rfl
@[simp] theorem callT_69 : callT Try.prog 69 = true := by kernel_rfl
@[simp] theorem callT_71 : callT Try.prog 71 = true := by kernel_rfl
@[simp] theorem callT_72 : callT Try.prog 72 = true := by kernel_rfl
@[simp] theorem callT_73 : callT Try.prog 73 = true := by kernel_rfl
@[simp] theorem callT_74 : callT Try.prog 74 = true := by kernel_rfl
@[simp] theorem callT_75 : callT Try.prog 75 = true := by kernel_rfl
@[simp] theorem callT_76 : callT Try.prog 76 = true := by kernel_rfl
@[simp] theorem callT_77 : callT Try.prog 77 = true := by kernel_rfl
@[simp] theorem callT_78 : callT Try.prog 78 = true := by kernel_rfl
end Go.Proofs.Ytkehopncefhohaa.V
