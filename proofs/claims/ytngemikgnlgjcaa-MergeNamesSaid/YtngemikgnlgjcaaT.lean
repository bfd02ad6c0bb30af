/- Facts about this seat's types and functions, printed by my own program; each is checked by the kernel. -/
import Derived.Test.YtngemikgnlgjcaaProg
import Derived.Test.YtngemikgnlgjcaaV9
import Derived.KernelRfl
namespace Go.Proofs.Ytngemikgnlgjcaa.V
open Go Go.Proofs
@[simp] theorem szT_1 : szT Try.prog 1 = some 1 := by kernel_rfl
@[simp] theorem byT_1 : byT Try.prog 1 = some 8 := by kernel_rfl
@[simp] theorem aggT_1 : aggT Try.prog 1 = some false := by kernel_rfl
@[simp] theorem zeroT_1 : zeroT Try.prog 1 = some [.nilFunc] := by kernel_rfl
@[simp] theorem eqK_1 : eqK Try.prog 1 = .func := by kernel_rfl
@[simp] theorem concT_1 : concT Try.prog 1 = true := by kernel_rfl
@[simp] theorem nintT_1 : nintT Try.prog 1 = true := by kernel_rfl
@[simp] theorem szT_2 : szT Try.prog 2 = some 1 := by kernel_rfl
@[simp] theorem byT_2 : byT Try.prog 2 = some 8 := by kernel_rfl
@[simp] theorem aggT_2 : aggT Try.prog 2 = some false := by kernel_rfl
@[simp] theorem zeroT_2 : zeroT Try.prog 2 = some [.int .i64 0] := by kernel_rfl
@[simp] theorem eqK_2 : eqK Try.prog 2 = .int := by kernel_rfl
@[simp] theorem concT_2 : concT Try.prog 2 = true := by kernel_rfl
@[simp] theorem szT_3 : szT Try.prog 3 = some 1 := by kernel_rfl
@[simp] theorem byT_3 : byT Try.prog 3 = some 8 := by kernel_rfl
@[simp] theorem aggT_3 : aggT Try.prog 3 = some false := by kernel_rfl
@[simp] theorem zeroT_3 : zeroT Try.prog 3 = some [.int .i64 0] := by kernel_rfl
@[simp] theorem eqK_3 : eqK Try.prog 3 = .int := by kernel_rfl
@[simp] theorem concT_3 : concT Try.prog 3 = true := by kernel_rfl
@[simp] theorem szT_4 : szT Try.prog 4 = some 1 := by kernel_rfl
@[simp] theorem byT_4 : byT Try.prog 4 = some 1 := by kernel_rfl
@[simp] theorem aggT_4 : aggT Try.prog 4 = some false := by kernel_rfl
@[simp] theorem zeroT_4 : zeroT Try.prog 4 = some [.bool false] := by kernel_rfl
@[simp] theorem eqK_4 : eqK Try.prog 4 = .bool := by kernel_rfl
@[simp] theorem concT_4 : concT Try.prog 4 = true := by kernel_rfl
@[simp] theorem nintT_4 : nintT Try.prog 4 = true := by kernel_rfl
@[simp] theorem szT_5 : szT Try.prog 5 = some 1 := by kernel_rfl
@[simp] theorem byT_5 : byT Try.prog 5 = some 1 := by kernel_rfl
@[simp] theorem aggT_5 : aggT Try.prog 5 = some false := by kernel_rfl
@[simp] theorem zeroT_5 : zeroT Try.prog 5 = some [.int .u8 0] := by kernel_rfl
@[simp] theorem eqK_5 : eqK Try.prog 5 = .int := by kernel_rfl
@[simp] theorem concT_5 : concT Try.prog 5 = true := by kernel_rfl
@[simp] theorem szT_7 : szT Try.prog 7 = some 4 := by kernel_rfl
@[simp] theorem byT_7 : byT Try.prog 7 = some 24 := by kernel_rfl
@[simp] theorem aggT_7 : aggT Try.prog 7 = some true := by kernel_rfl
@[simp] theorem zeroT_7 : zeroT Try.prog 7 = some [.int .i64 0, .int .i64 0, .bool false, .int .u8 0] := by kernel_rfl
@[simp] theorem fieldsT_7_0 : fieldsT Try.prog 7 0 = some (0, 2) := by kernel_rfl
@[simp] theorem fieldO_7_0 : fieldO Try.prog 7 0 = some 0 := by kernel_rfl
@[simp] theorem fieldsT_7_1 : fieldsT Try.prog 7 1 = some (1, 3) := by kernel_rfl
@[simp] theorem fieldO_7_1 : fieldO Try.prog 7 1 = some 1 := by kernel_rfl
@[simp] theorem fieldsT_7_2 : fieldsT Try.prog 7 2 = some (2, 4) := by kernel_rfl
@[simp] theorem fieldO_7_2 : fieldO Try.prog 7 2 = some 2 := by kernel_rfl
@[simp] theorem fieldsT_7_3 : fieldsT Try.prog 7 3 = some (3, 6) := by kernel_rfl
@[simp] theorem fieldO_7_3 : fieldO Try.prog 7 3 = some 3 := by kernel_rfl
@[simp] theorem placesT_7 : placesT Try.prog 7 = some [(0, 1), (1, 1), (2, 1), (3, 1)] := by kernel_rfl
@[simp] theorem arrT_7 : arrT Try.prog 7 = none := by kernel_rfl
@[simp] theorem eqK_7 : eqK Try.prog 7 = .struct [(2, 0), (3, 1), (4, 2), (6, 3)] := by kernel_rfl
@[simp] theorem eqG_7 : Program.eqGuardType Try.prog (Program.depth Try.prog) 7 = false := by kernel_rfl
@[simp] theorem concT_7 : concT Try.prog 7 = true := by kernel_rfl
@[simp] theorem nintT_7 : nintT Try.prog 7 = true := by kernel_rfl
@[simp] theorem szT_9 : szT Try.prog 9 = some 1 := by kernel_rfl
@[simp] theorem byT_9 : byT Try.prog 9 = some 16 := by kernel_rfl
@[simp] theorem aggT_9 : aggT Try.prog 9 = some false := by kernel_rfl
@[simp] theorem zeroT_9 : zeroT Try.prog 9 = some [.str ⟨#[]⟩] := by kernel_rfl
@[simp] theorem isStr_9 : isStr Try.prog 9 = true := by kernel_rfl
@[simp] theorem lenK_9 : lenK Try.prog 9 = .str := by kernel_rfl
@[simp] theorem eqK_9 : eqK Try.prog 9 = .string := by kernel_rfl
@[simp] theorem concT_9 : concT Try.prog 9 = true := by kernel_rfl
@[simp] theorem nintT_9 : nintT Try.prog 9 = true := by kernel_rfl
@[simp] theorem szT_12 : szT Try.prog 12 = some 1 := by kernel_rfl
@[simp] theorem byT_12 : byT Try.prog 12 = some 8 := by kernel_rfl
@[simp] theorem aggT_12 : aggT Try.prog 12 = some false := by kernel_rfl
@[simp] theorem zeroT_12 : zeroT Try.prog 12 = some [.int .u64 0] := by kernel_rfl
@[simp] theorem eqK_12 : eqK Try.prog 12 = .int := by kernel_rfl
@[simp] theorem concT_12 : concT Try.prog 12 = true := by kernel_rfl
@[simp] theorem szT_13 : szT Try.prog 13 = some 2 := by kernel_rfl
@[simp] theorem byT_13 : byT Try.prog 13 = some 24 := by kernel_rfl
@[simp] theorem aggT_13 : aggT Try.prog 13 = some true := by kernel_rfl
@[simp] theorem zeroT_13 : zeroT Try.prog 13 = some [.str ⟨#[]⟩, .int .u64 0] := by kernel_rfl
@[simp] theorem fieldsT_13_0 : fieldsT Try.prog 13 0 = some (0, 9) := by kernel_rfl
@[simp] theorem fieldO_13_0 : fieldO Try.prog 13 0 = some 0 := by kernel_rfl
@[simp] theorem fieldsT_13_1 : fieldsT Try.prog 13 1 = some (1, 12) := by kernel_rfl
@[simp] theorem fieldO_13_1 : fieldO Try.prog 13 1 = some 1 := by kernel_rfl
@[simp] theorem placesT_13 : placesT Try.prog 13 = some [(0, 1), (1, 1)] := by kernel_rfl
@[simp] theorem arrT_13 : arrT Try.prog 13 = none := by kernel_rfl
@[simp] theorem eqG_13 : Program.eqGuardType Try.prog (Program.depth Try.prog) 13 = false := by kernel_rfl
@[simp] theorem concT_13 : concT Try.prog 13 = true := by kernel_rfl
@[simp] theorem nintT_13 : nintT Try.prog 13 = true := by kernel_rfl
@[simp] theorem szT_15 : szT Try.prog 15 = some 1 := by kernel_rfl
@[simp] theorem byT_15 : byT Try.prog 15 = some 8 := by kernel_rfl
@[simp] theorem aggT_15 : aggT Try.prog 15 = some false := by kernel_rfl
@[simp] theorem zeroT_15 : zeroT Try.prog 15 = some [.nilptr] := by kernel_rfl
@[simp] theorem eqK_15 : eqK Try.prog 15 = .pointer := by kernel_rfl
@[simp] theorem concT_15 : concT Try.prog 15 = true := by kernel_rfl
@[simp] theorem nintT_15 : nintT Try.prog 15 = true := by kernel_rfl
@[simp] theorem szT_16 : szT Try.prog 16 = some 1 := by kernel_rfl
@[simp] theorem byT_16 : byT Try.prog 16 = some 8 := by kernel_rfl
@[simp] theorem aggT_16 : aggT Try.prog 16 = some false := by kernel_rfl
@[simp] theorem zeroT_16 : zeroT Try.prog 16 = some [.nilptr] := by kernel_rfl
@[simp] theorem eqK_16 : eqK Try.prog 16 = .pointer := by kernel_rfl
@[simp] theorem concT_16 : concT Try.prog 16 = true := by kernel_rfl
@[simp] theorem nintT_16 : nintT Try.prog 16 = true := by kernel_rfl
@[simp] theorem szT_17 : szT Try.prog 17 = some 1 := by kernel_rfl
@[simp] theorem byT_17 : byT Try.prog 17 = some 8 := by kernel_rfl
@[simp] theorem aggT_17 : aggT Try.prog 17 = some false := by kernel_rfl
@[simp] theorem zeroT_17 : zeroT Try.prog 17 = some [.nilptr] := by kernel_rfl
@[simp] theorem eqK_17 : eqK Try.prog 17 = .pointer := by kernel_rfl
@[simp] theorem concT_17 : concT Try.prog 17 = true := by kernel_rfl
@[simp] theorem nintT_17 : nintT Try.prog 17 = true := by kernel_rfl
@[simp] theorem szT_18 : szT Try.prog 18 = some 1 := by kernel_rfl
@[simp] theorem byT_18 : byT Try.prog 18 = some 8 := by kernel_rfl
@[simp] theorem aggT_18 : aggT Try.prog 18 = some true := by kernel_rfl
@[simp] theorem zeroT_18 : zeroT Try.prog 18 = some [.nilptr] := by kernel_rfl
@[simp] theorem fieldsT_18_0 : fieldsT Try.prog 18 0 = some (0, 17) := by kernel_rfl
@[simp] theorem fieldO_18_0 : fieldO Try.prog 18 0 = some 0 := by kernel_rfl
@[simp] theorem placesT_18 : placesT Try.prog 18 = some [(0, 1)] := by kernel_rfl
@[simp] theorem arrT_18 : arrT Try.prog 18 = none := by kernel_rfl
@[simp] theorem eqG_18 : Program.eqGuardType Try.prog (Program.depth Try.prog) 18 = false := by kernel_rfl
@[simp] theorem concT_18 : concT Try.prog 18 = true := by kernel_rfl
@[simp] theorem nintT_18 : nintT Try.prog 18 = true := by kernel_rfl
@[simp] theorem szT_20 : szT Try.prog 20 = some 1 := by kernel_rfl
@[simp] theorem byT_20 : byT Try.prog 20 = some 16 := by kernel_rfl
@[simp] theorem aggT_20 : aggT Try.prog 20 = some false := by kernel_rfl
@[simp] theorem zeroT_20 : zeroT Try.prog 20 = some [.nilIface] := by kernel_rfl
@[simp] theorem eqK_20 : eqK Try.prog 20 = .iface := by kernel_rfl
@[simp] theorem nintT_20 : nintT Try.prog 20 = true := by kernel_rfl
@[simp] theorem szT_21 : szT Try.prog 21 = some 1 := by kernel_rfl
@[simp] theorem byT_21 : byT Try.prog 21 = some 4 := by kernel_rfl
@[simp] theorem aggT_21 : aggT Try.prog 21 = some false := by kernel_rfl
@[simp] theorem zeroT_21 : zeroT Try.prog 21 = some [.int .i32 0] := by kernel_rfl
@[simp] theorem eqK_21 : eqK Try.prog 21 = .int := by kernel_rfl
@[simp] theorem concT_21 : concT Try.prog 21 = true := by kernel_rfl
@[simp] theorem szT_22 : szT Try.prog 22 = some 6 := by kernel_rfl
@[simp] theorem byT_22 : byT Try.prog 22 = some 48 := by kernel_rfl
@[simp] theorem aggT_22 : aggT Try.prog 22 = some true := by kernel_rfl
@[simp] theorem zeroT_22 : zeroT Try.prog 22 = some [.int .i64 0, .int .i64 0, .int .i64 0, .int .i64 0, .int .i64 0, .int .i64 0] := by kernel_rfl
@[simp] theorem fieldsT_22_0 : fieldsT Try.prog 22 0 = some (0, 2) := by kernel_rfl
@[simp] theorem fieldO_22_0 : fieldO Try.prog 22 0 = some 0 := by kernel_rfl
@[simp] theorem fieldsT_22_1 : fieldsT Try.prog 22 1 = some (1, 3) := by kernel_rfl
@[simp] theorem fieldO_22_1 : fieldO Try.prog 22 1 = some 1 := by kernel_rfl
@[simp] theorem fieldsT_22_2 : fieldsT Try.prog 22 2 = some (2, 2) := by kernel_rfl
@[simp] theorem fieldO_22_2 : fieldO Try.prog 22 2 = some 2 := by kernel_rfl
@[simp] theorem fieldsT_22_3 : fieldsT Try.prog 22 3 = some (3, 3) := by kernel_rfl
@[simp] theorem fieldO_22_3 : fieldO Try.prog 22 3 = some 3 := by kernel_rfl
@[simp] theorem fieldsT_22_4 : fieldsT Try.prog 22 4 = some (4, 3) := by kernel_rfl
@[simp] theorem fieldO_22_4 : fieldO Try.prog 22 4 = some 4 := by kernel_rfl
@[simp] theorem fieldsT_22_5 : fieldsT Try.prog 22 5 = some (5, 3) := by kernel_rfl
@[simp] theorem fieldO_22_5 : fieldO Try.prog 22 5 = some 5 := by kernel_rfl
@[simp] theorem placesT_22 : placesT Try.prog 22 = some [(0, 1), (1, 1), (2, 1), (3, 1), (4, 1), (5, 1)] := by kernel_rfl
@[simp] theorem arrT_22 : arrT Try.prog 22 = none := by kernel_rfl
@[simp] theorem eqK_22 : eqK Try.prog 22 = .struct [(2, 0), (3, 1), (2, 2), (3, 3), (3, 4), (3, 5)] := by kernel_rfl
@[simp] theorem eqG_22 : Program.eqGuardType Try.prog (Program.depth Try.prog) 22 = false := by kernel_rfl
@[simp] theorem concT_22 : concT Try.prog 22 = true := by kernel_rfl
@[simp] theorem nintT_22 : nintT Try.prog 22 = true := by kernel_rfl
@[simp] theorem szT_23 : szT Try.prog 23 = some 6 := by kernel_rfl
@[simp] theorem byT_23 : byT Try.prog 23 = some 48 := by kernel_rfl
@[simp] theorem aggT_23 : aggT Try.prog 23 = some true := by kernel_rfl
@[simp] theorem zeroT_23 : zeroT Try.prog 23 = some [.int .i64 0, .int .i64 0, .int .i64 0, .int .i64 0, .int .i64 0, .int .i64 0] := by kernel_rfl
@[simp] theorem fieldsT_23_0 : fieldsT Try.prog 23 0 = some (0, 2) := by kernel_rfl
@[simp] theorem fieldO_23_0 : fieldO Try.prog 23 0 = some 0 := by kernel_rfl
@[simp] theorem fieldsT_23_1 : fieldsT Try.prog 23 1 = some (1, 3) := by kernel_rfl
@[simp] theorem fieldO_23_1 : fieldO Try.prog 23 1 = some 1 := by kernel_rfl
@[simp] theorem fieldsT_23_2 : fieldsT Try.prog 23 2 = some (2, 2) := by kernel_rfl
@[simp] theorem fieldO_23_2 : fieldO Try.prog 23 2 = some 2 := by kernel_rfl
@[simp] theorem fieldsT_23_3 : fieldsT Try.prog 23 3 = some (3, 3) := by kernel_rfl
@[simp] theorem fieldO_23_3 : fieldO Try.prog 23 3 = some 3 := by kernel_rfl
@[simp] theorem fieldsT_23_4 : fieldsT Try.prog 23 4 = some (4, 3) := by kernel_rfl
@[simp] theorem fieldO_23_4 : fieldO Try.prog 23 4 = some 4 := by kernel_rfl
@[simp] theorem fieldsT_23_5 : fieldsT Try.prog 23 5 = some (5, 3) := by kernel_rfl
@[simp] theorem fieldO_23_5 : fieldO Try.prog 23 5 = some 5 := by kernel_rfl
@[simp] theorem placesT_23 : placesT Try.prog 23 = some [(0, 1), (1, 1), (2, 1), (3, 1), (4, 1), (5, 1)] := by kernel_rfl
@[simp] theorem arrT_23 : arrT Try.prog 23 = none := by kernel_rfl
@[simp] theorem eqK_23 : eqK Try.prog 23 = .struct [(2, 0), (3, 1), (2, 2), (3, 3), (3, 4), (3, 5)] := by kernel_rfl
@[simp] theorem eqG_23 : Program.eqGuardType Try.prog (Program.depth Try.prog) 23 = false := by kernel_rfl
@[simp] theorem concT_23 : concT Try.prog 23 = true := by kernel_rfl
@[simp] theorem nintT_23 : nintT Try.prog 23 = true := by kernel_rfl
@[simp] theorem szT_24 : szT Try.prog 24 = some 1 := by kernel_rfl
@[simp] theorem byT_24 : byT Try.prog 24 = some 8 := by kernel_rfl
@[simp] theorem aggT_24 : aggT Try.prog 24 = some false := by kernel_rfl
@[simp] theorem zeroT_24 : zeroT Try.prog 24 = some [.nilFunc] := by kernel_rfl
@[simp] theorem eqK_24 : eqK Try.prog 24 = .func := by kernel_rfl
@[simp] theorem concT_24 : concT Try.prog 24 = true := by kernel_rfl
@[simp] theorem nintT_24 : nintT Try.prog 24 = true := by kernel_rfl
@[simp] theorem szT_25 : szT Try.prog 25 = some 1 := by kernel_rfl
@[simp] theorem byT_25 : byT Try.prog 25 = some 24 := by kernel_rfl
@[simp] theorem aggT_25 : aggT Try.prog 25 = some false := by kernel_rfl
@[simp] theorem zeroT_25 : zeroT Try.prog 25 = some [.nilslice] := by kernel_rfl
@[simp] theorem sliT_25 : sliT Try.prog 25 = some 23 := by kernel_rfl
@[simp] theorem lenK_25 : lenK Try.prog 25 = .slice := by kernel_rfl
@[simp] theorem eqK_25 : eqK Try.prog 25 = .slice := by kernel_rfl
@[simp] theorem arrT_25 : arrT Try.prog 25 = none := by kernel_rfl
@[simp] theorem concT_25 : concT Try.prog 25 = true := by kernel_rfl
@[simp] theorem nintT_25 : nintT Try.prog 25 = true := by kernel_rfl
@[simp] theorem szT_26 : szT Try.prog 26 = some 1 := by kernel_rfl
@[simp] theorem byT_26 : byT Try.prog 26 = some 8 := by kernel_rfl
@[simp] theorem aggT_26 : aggT Try.prog 26 = some false := by kernel_rfl
@[simp] theorem zeroT_26 : zeroT Try.prog 26 = some [.int .i64 0] := by kernel_rfl
@[simp] theorem eqK_26 : eqK Try.prog 26 = .int := by kernel_rfl
@[simp] theorem concT_26 : concT Try.prog 26 = true := by kernel_rfl
@[simp] theorem szT_28 : szT Try.prog 28 = some 1 := by kernel_rfl
@[simp] theorem byT_28 : byT Try.prog 28 = some 8 := by kernel_rfl
@[simp] theorem aggT_28 : aggT Try.prog 28 = some false := by kernel_rfl
@[simp] theorem zeroT_28 : zeroT Try.prog 28 = some [.nilFunc] := by kernel_rfl
@[simp] theorem eqK_28 : eqK Try.prog 28 = .func := by kernel_rfl
@[simp] theorem concT_28 : concT Try.prog 28 = true := by kernel_rfl
@[simp] theorem nintT_28 : nintT Try.prog 28 = true := by kernel_rfl
@[simp] theorem szT_29 : szT Try.prog 29 = some 1 := by kernel_rfl
@[simp] theorem byT_29 : byT Try.prog 29 = some 8 := by kernel_rfl
@[simp] theorem aggT_29 : aggT Try.prog 29 = some false := by kernel_rfl
@[simp] theorem zeroT_29 : zeroT Try.prog 29 = some [.nilFunc] := by kernel_rfl
@[simp] theorem eqK_29 : eqK Try.prog 29 = .func := by kernel_rfl
@[simp] theorem concT_29 : concT Try.prog 29 = true := by kernel_rfl
@[simp] theorem nintT_29 : nintT Try.prog 29 = true := by kernel_rfl
@[simp] theorem szT_30 : szT Try.prog 30 = some 1 := by kernel_rfl
@[simp] theorem byT_30 : byT Try.prog 30 = some 8 := by kernel_rfl
@[simp] theorem aggT_30 : aggT Try.prog 30 = some false := by kernel_rfl
@[simp] theorem zeroT_30 : zeroT Try.prog 30 = some [.nilFunc] := by kernel_rfl
@[simp] theorem eqK_30 : eqK Try.prog 30 = .func := by kernel_rfl
@[simp] theorem concT_30 : concT Try.prog 30 = true := by kernel_rfl
@[simp] theorem nintT_30 : nintT Try.prog 30 = true := by kernel_rfl
@[simp] theorem szT_31 : szT Try.prog 31 = some 1 := by kernel_rfl
@[simp] theorem byT_31 : byT Try.prog 31 = some 8 := by kernel_rfl
@[simp] theorem aggT_31 : aggT Try.prog 31 = some false := by kernel_rfl
@[simp] theorem zeroT_31 : zeroT Try.prog 31 = some [.nilFunc] := by kernel_rfl
@[simp] theorem eqK_31 : eqK Try.prog 31 = .func := by kernel_rfl
@[simp] theorem concT_31 : concT Try.prog 31 = true := by kernel_rfl
@[simp] theorem nintT_31 : nintT Try.prog 31 = true := by kernel_rfl
@[simp] theorem szT_32 : szT Try.prog 32 = some 1 := by kernel_rfl
@[simp] theorem byT_32 : byT Try.prog 32 = some 24 := by kernel_rfl
@[simp] theorem aggT_32 : aggT Try.prog 32 = some false := by kernel_rfl
@[simp] theorem zeroT_32 : zeroT Try.prog 32 = some [.nilslice] := by kernel_rfl
@[simp] theorem sliT_32 : sliT Try.prog 32 = some 25 := by kernel_rfl
@[simp] theorem lenK_32 : lenK Try.prog 32 = .slice := by kernel_rfl
@[simp] theorem eqK_32 : eqK Try.prog 32 = .slice := by kernel_rfl
@[simp] theorem arrT_32 : arrT Try.prog 32 = none := by kernel_rfl
@[simp] theorem concT_32 : concT Try.prog 32 = true := by kernel_rfl
@[simp] theorem nintT_32 : nintT Try.prog 32 = true := by kernel_rfl
@[simp] theorem szT_33 : szT Try.prog 33 = some 1 := by kernel_rfl
@[simp] theorem byT_33 : byT Try.prog 33 = some 24 := by kernel_rfl
@[simp] theorem aggT_33 : aggT Try.prog 33 = some false := by kernel_rfl
@[simp] theorem zeroT_33 : zeroT Try.prog 33 = some [.nilslice] := by kernel_rfl
@[simp] theorem sliT_33 : sliT Try.prog 33 = some 25 := by kernel_rfl
@[simp] theorem lenK_33 : lenK Try.prog 33 = .slice := by kernel_rfl
@[simp] theorem eqK_33 : eqK Try.prog 33 = .slice := by kernel_rfl
@[simp] theorem arrT_33 : arrT Try.prog 33 = none := by kernel_rfl
@[simp] theorem concT_33 : concT Try.prog 33 = true := by kernel_rfl
@[simp] theorem nintT_33 : nintT Try.prog 33 = true := by kernel_rfl
@[simp] theorem szT_34 : szT Try.prog 34 = some 1 := by kernel_rfl
@[simp] theorem byT_34 : byT Try.prog 34 = some 8 := by kernel_rfl
@[simp] theorem aggT_34 : aggT Try.prog 34 = some false := by kernel_rfl
@[simp] theorem zeroT_34 : zeroT Try.prog 34 = some [.nilFunc] := by kernel_rfl
@[simp] theorem eqK_34 : eqK Try.prog 34 = .func := by kernel_rfl
@[simp] theorem concT_34 : concT Try.prog 34 = true := by kernel_rfl
@[simp] theorem nintT_34 : nintT Try.prog 34 = true := by kernel_rfl
@[simp] theorem szT_35 : szT Try.prog 35 = some 1 := by kernel_rfl
@[simp] theorem byT_35 : byT Try.prog 35 = some 8 := by kernel_rfl
@[simp] theorem aggT_35 : aggT Try.prog 35 = some false := by kernel_rfl
@[simp] theorem zeroT_35 : zeroT Try.prog 35 = some [.nilFunc] := by kernel_rfl
@[simp] theorem eqK_35 : eqK Try.prog 35 = .func := by kernel_rfl
@[simp] theorem concT_35 : concT Try.prog 35 = true := by kernel_rfl
@[simp] theorem nintT_35 : nintT Try.prog 35 = true := by kernel_rfl
@[simp] theorem szT_36 : szT Try.prog 36 = some 1 := by kernel_rfl
@[simp] theorem byT_36 : byT Try.prog 36 = some 8 := by kernel_rfl
@[simp] theorem aggT_36 : aggT Try.prog 36 = some false := by kernel_rfl
@[simp] theorem zeroT_36 : zeroT Try.prog 36 = some [.nilptr] := by kernel_rfl
@[simp] theorem eqK_36 : eqK Try.prog 36 = .pointer := by kernel_rfl
@[simp] theorem concT_36 : concT Try.prog 36 = true := by kernel_rfl
@[simp] theorem nintT_36 : nintT Try.prog 36 = true := by kernel_rfl
@[simp] theorem szT_37 : szT Try.prog 37 = some 1 := by kernel_rfl
@[simp] theorem byT_37 : byT Try.prog 37 = some 8 := by kernel_rfl
@[simp] theorem aggT_37 : aggT Try.prog 37 = some false := by kernel_rfl
@[simp] theorem zeroT_37 : zeroT Try.prog 37 = some [.nilFunc] := by kernel_rfl
@[simp] theorem eqK_37 : eqK Try.prog 37 = .func := by kernel_rfl
@[simp] theorem concT_37 : concT Try.prog 37 = true := by kernel_rfl
@[simp] theorem nintT_37 : nintT Try.prog 37 = true := by kernel_rfl
@[simp] theorem szT_38 : szT Try.prog 38 = some 1 := by kernel_rfl
@[simp] theorem byT_38 : byT Try.prog 38 = some 8 := by kernel_rfl
@[simp] theorem aggT_38 : aggT Try.prog 38 = some false := by kernel_rfl
@[simp] theorem zeroT_38 : zeroT Try.prog 38 = some [.nilFunc] := by kernel_rfl
@[simp] theorem eqK_38 : eqK Try.prog 38 = .func := by kernel_rfl
@[simp] theorem concT_38 : concT Try.prog 38 = true := by kernel_rfl
@[simp] theorem nintT_38 : nintT Try.prog 38 = true := by kernel_rfl
@[simp] theorem szT_39 : szT Try.prog 39 = some 1 := by kernel_rfl
@[simp] theorem byT_39 : byT Try.prog 39 = some 8 := by kernel_rfl
@[simp] theorem aggT_39 : aggT Try.prog 39 = some false := by kernel_rfl
@[simp] theorem zeroT_39 : zeroT Try.prog 39 = some [.nilFunc] := by kernel_rfl
@[simp] theorem eqK_39 : eqK Try.prog 39 = .func := by kernel_rfl
@[simp] theorem concT_39 : concT Try.prog 39 = true := by kernel_rfl
@[simp] theorem nintT_39 : nintT Try.prog 39 = true := by kernel_rfl
@[simp] theorem szT_40 : szT Try.prog 40 = some 1 := by kernel_rfl
@[simp] theorem byT_40 : byT Try.prog 40 = some 8 := by kernel_rfl
@[simp] theorem aggT_40 : aggT Try.prog 40 = some false := by kernel_rfl
@[simp] theorem zeroT_40 : zeroT Try.prog 40 = some [.nilFunc] := by kernel_rfl
@[simp] theorem eqK_40 : eqK Try.prog 40 = .func := by kernel_rfl
@[simp] theorem concT_40 : concT Try.prog 40 = true := by kernel_rfl
@[simp] theorem nintT_40 : nintT Try.prog 40 = true := by kernel_rfl
@[simp] theorem szT_41 : szT Try.prog 41 = some 1 := by kernel_rfl
@[simp] theorem byT_41 : byT Try.prog 41 = some 8 := by kernel_rfl
@[simp] theorem aggT_41 : aggT Try.prog 41 = some false := by kernel_rfl
@[simp] theorem zeroT_41 : zeroT Try.prog 41 = some [.nilFunc] := by kernel_rfl
@[simp] theorem eqK_41 : eqK Try.prog 41 = .func := by kernel_rfl
@[simp] theorem concT_41 : concT Try.prog 41 = true := by kernel_rfl
@[simp] theorem nintT_41 : nintT Try.prog 41 = true := by kernel_rfl
@[simp] theorem szT_42 : szT Try.prog 42 = some 1 := by kernel_rfl
@[simp] theorem byT_42 : byT Try.prog 42 = some 8 := by kernel_rfl
@[simp] theorem aggT_42 : aggT Try.prog 42 = some false := by kernel_rfl
@[simp] theorem zeroT_42 : zeroT Try.prog 42 = some [.nilFunc] := by kernel_rfl
@[simp] theorem eqK_42 : eqK Try.prog 42 = .func := by kernel_rfl
@[simp] theorem concT_42 : concT Try.prog 42 = true := by kernel_rfl
@[simp] theorem nintT_42 : nintT Try.prog 42 = true := by kernel_rfl
@[simp] theorem szT_43 : szT Try.prog 43 = some 1 := by kernel_rfl
@[simp] theorem byT_43 : byT Try.prog 43 = some 8 := by kernel_rfl
@[simp] theorem aggT_43 : aggT Try.prog 43 = some false := by kernel_rfl
@[simp] theorem zeroT_43 : zeroT Try.prog 43 = some [.nilFunc] := by kernel_rfl
@[simp] theorem eqK_43 : eqK Try.prog 43 = .func := by kernel_rfl
@[simp] theorem concT_43 : concT Try.prog 43 = true := by kernel_rfl
@[simp] theorem nintT_43 : nintT Try.prog 43 = true := by kernel_rfl
@[simp] theorem szT_44 : szT Try.prog 44 = some 1 := by kernel_rfl
@[simp] theorem byT_44 : byT Try.prog 44 = some 8 := by kernel_rfl
@[simp] theorem aggT_44 : aggT Try.prog 44 = some false := by kernel_rfl
@[simp] theorem zeroT_44 : zeroT Try.prog 44 = some [.nilFunc] := by kernel_rfl
@[simp] theorem eqK_44 : eqK Try.prog 44 = .func := by kernel_rfl
@[simp] theorem concT_44 : concT Try.prog 44 = true := by kernel_rfl
@[simp] theorem nintT_44 : nintT Try.prog 44 = true := by kernel_rfl
@[simp] theorem szT_45 : szT Try.prog 45 = some 1 := by kernel_rfl
@[simp] theorem byT_45 : byT Try.prog 45 = some 16 := by kernel_rfl
@[simp] theorem aggT_45 : aggT Try.prog 45 = some false := by kernel_rfl
@[simp] theorem zeroT_45 : zeroT Try.prog 45 = some [.nilIface] := by kernel_rfl
@[simp] theorem eqK_45 : eqK Try.prog 45 = .iface := by kernel_rfl
@[simp] theorem nintT_45 : nintT Try.prog 45 = true := by kernel_rfl
@[simp] theorem szT_46 : szT Try.prog 46 = some 1 := by kernel_rfl
@[simp] theorem byT_46 : byT Try.prog 46 = some 16 := by kernel_rfl
@[simp] theorem aggT_46 : aggT Try.prog 46 = some false := by kernel_rfl
@[simp] theorem zeroT_46 : zeroT Try.prog 46 = some [.nilIface] := by kernel_rfl
@[simp] theorem eqK_46 : eqK Try.prog 46 = .iface := by kernel_rfl
@[simp] theorem nintT_46 : nintT Try.prog 46 = true := by kernel_rfl
@[simp] theorem szT_47 : szT Try.prog 47 = some 1 := by kernel_rfl
@[simp] theorem byT_47 : byT Try.prog 47 = some 8 := by kernel_rfl
@[simp] theorem aggT_47 : aggT Try.prog 47 = some false := by kernel_rfl
@[simp] theorem zeroT_47 : zeroT Try.prog 47 = some [.nilFunc] := by kernel_rfl
@[simp] theorem eqK_47 : eqK Try.prog 47 = .func := by kernel_rfl
@[simp] theorem concT_47 : concT Try.prog 47 = true := by kernel_rfl
@[simp] theorem nintT_47 : nintT Try.prog 47 = true := by kernel_rfl
@[simp] theorem szT_48 : szT Try.prog 48 = some 1 := by kernel_rfl
@[simp] theorem byT_48 : byT Try.prog 48 = some 8 := by kernel_rfl
@[simp] theorem aggT_48 : aggT Try.prog 48 = some false := by kernel_rfl
@[simp] theorem zeroT_48 : zeroT Try.prog 48 = some [.nilFunc] := by kernel_rfl
@[simp] theorem eqK_48 : eqK Try.prog 48 = .func := by kernel_rfl
@[simp] theorem concT_48 : concT Try.prog 48 = true := by kernel_rfl
@[simp] theorem nintT_48 : nintT Try.prog 48 = true := by kernel_rfl
@[simp] theorem szT_49 : szT Try.prog 49 = some 1 := by kernel_rfl
@[simp] theorem byT_49 : byT Try.prog 49 = some 8 := by kernel_rfl
@[simp] theorem aggT_49 : aggT Try.prog 49 = some false := by kernel_rfl
@[simp] theorem zeroT_49 : zeroT Try.prog 49 = some [.nilFunc] := by kernel_rfl
@[simp] theorem eqK_49 : eqK Try.prog 49 = .func := by kernel_rfl
@[simp] theorem concT_49 : concT Try.prog 49 = true := by kernel_rfl
@[simp] theorem nintT_49 : nintT Try.prog 49 = true := by kernel_rfl
@[simp] theorem szT_50 : szT Try.prog 50 = some 1 := by kernel_rfl
@[simp] theorem byT_50 : byT Try.prog 50 = some 8 := by kernel_rfl
@[simp] theorem aggT_50 : aggT Try.prog 50 = some false := by kernel_rfl
@[simp] theorem zeroT_50 : zeroT Try.prog 50 = some [.nilFunc] := by kernel_rfl
@[simp] theorem eqK_50 : eqK Try.prog 50 = .func := by kernel_rfl
@[simp] theorem concT_50 : concT Try.prog 50 = true := by kernel_rfl
@[simp] theorem nintT_50 : nintT Try.prog 50 = true := by kernel_rfl
@[simp] theorem szT_51 : szT Try.prog 51 = some 1 := by kernel_rfl
@[simp] theorem byT_51 : byT Try.prog 51 = some 8 := by kernel_rfl
@[simp] theorem aggT_51 : aggT Try.prog 51 = some false := by kernel_rfl
@[simp] theorem zeroT_51 : zeroT Try.prog 51 = some [.nilFunc] := by kernel_rfl
@[simp] theorem eqK_51 : eqK Try.prog 51 = .func := by kernel_rfl
@[simp] theorem concT_51 : concT Try.prog 51 = true := by kernel_rfl
@[simp] theorem nintT_51 : nintT Try.prog 51 = true := by kernel_rfl
@[simp] theorem szT_52 : szT Try.prog 52 = some 1 := by kernel_rfl
@[simp] theorem byT_52 : byT Try.prog 52 = some 8 := by kernel_rfl
@[simp] theorem aggT_52 : aggT Try.prog 52 = some false := by kernel_rfl
@[simp] theorem zeroT_52 : zeroT Try.prog 52 = some [.nilFunc] := by kernel_rfl
@[simp] theorem eqK_52 : eqK Try.prog 52 = .func := by kernel_rfl
@[simp] theorem concT_52 : concT Try.prog 52 = true := by kernel_rfl
@[simp] theorem nintT_52 : nintT Try.prog 52 = true := by kernel_rfl
@[simp] theorem szT_53 : szT Try.prog 53 = some 1 := by kernel_rfl
@[simp] theorem byT_53 : byT Try.prog 53 = some 8 := by kernel_rfl
@[simp] theorem aggT_53 : aggT Try.prog 53 = some false := by kernel_rfl
@[simp] theorem zeroT_53 : zeroT Try.prog 53 = some [.nilFunc] := by kernel_rfl
@[simp] theorem eqK_53 : eqK Try.prog 53 = .func := by kernel_rfl
@[simp] theorem concT_53 : concT Try.prog 53 = true := by kernel_rfl
@[simp] theorem nintT_53 : nintT Try.prog 53 = true := by kernel_rfl
@[simp] theorem szT_54 : szT Try.prog 54 = some 1 := by kernel_rfl
@[simp] theorem byT_54 : byT Try.prog 54 = some 8 := by kernel_rfl
@[simp] theorem aggT_54 : aggT Try.prog 54 = some false := by kernel_rfl
@[simp] theorem zeroT_54 : zeroT Try.prog 54 = some [.nilFunc] := by kernel_rfl
@[simp] theorem eqK_54 : eqK Try.prog 54 = .func := by kernel_rfl
@[simp] theorem concT_54 : concT Try.prog 54 = true := by kernel_rfl
@[simp] theorem nintT_54 : nintT Try.prog 54 = true := by kernel_rfl
@[simp] theorem szT_55 : szT Try.prog 55 = some 1 := by kernel_rfl
@[simp] theorem byT_55 : byT Try.prog 55 = some 8 := by kernel_rfl
@[simp] theorem aggT_55 : aggT Try.prog 55 = some false := by kernel_rfl
@[simp] theorem zeroT_55 : zeroT Try.prog 55 = some [.nilFunc] := by kernel_rfl
@[simp] theorem eqK_55 : eqK Try.prog 55 = .func := by kernel_rfl
@[simp] theorem concT_55 : concT Try.prog 55 = true := by kernel_rfl
@[simp] theorem nintT_55 : nintT Try.prog 55 = true := by kernel_rfl
@[simp] theorem szT_56 : szT Try.prog 56 = some 1 := by kernel_rfl
@[simp] theorem byT_56 : byT Try.prog 56 = some 8 := by kernel_rfl
@[simp] theorem aggT_56 : aggT Try.prog 56 = some false := by kernel_rfl
@[simp] theorem zeroT_56 : zeroT Try.prog 56 = some [.nilFunc] := by kernel_rfl
@[simp] theorem eqK_56 : eqK Try.prog 56 = .func := by kernel_rfl
@[simp] theorem concT_56 : concT Try.prog 56 = true := by kernel_rfl
@[simp] theorem nintT_56 : nintT Try.prog 56 = true := by kernel_rfl
@[simp] theorem szT_57 : szT Try.prog 57 = some 1 := by kernel_rfl
@[simp] theorem byT_57 : byT Try.prog 57 = some 24 := by kernel_rfl
@[simp] theorem aggT_57 : aggT Try.prog 57 = some false := by kernel_rfl
@[simp] theorem zeroT_57 : zeroT Try.prog 57 = some [.nilslice] := by kernel_rfl
@[simp] theorem sliT_57 : sliT Try.prog 57 = some 3 := by kernel_rfl
@[simp] theorem lenK_57 : lenK Try.prog 57 = .slice := by kernel_rfl
@[simp] theorem eqK_57 : eqK Try.prog 57 = .slice := by kernel_rfl
@[simp] theorem arrT_57 : arrT Try.prog 57 = none := by kernel_rfl
@[simp] theorem concT_57 : concT Try.prog 57 = true := by kernel_rfl
@[simp] theorem nintT_57 : nintT Try.prog 57 = true := by kernel_rfl
@[simp] theorem szT_58 : szT Try.prog 58 = some 1 := by kernel_rfl
@[simp] theorem byT_58 : byT Try.prog 58 = some 8 := by kernel_rfl
@[simp] theorem aggT_58 : aggT Try.prog 58 = some false := by kernel_rfl
@[simp] theorem zeroT_58 : zeroT Try.prog 58 = some [.nilFunc] := by kernel_rfl
@[simp] theorem eqK_58 : eqK Try.prog 58 = .func := by kernel_rfl
@[simp] theorem concT_58 : concT Try.prog 58 = true := by kernel_rfl
@[simp] theorem nintT_58 : nintT Try.prog 58 = true := by kernel_rfl
@[simp] theorem szT_59 : szT Try.prog 59 = some 1 := by kernel_rfl
@[simp] theorem byT_59 : byT Try.prog 59 = some 8 := by kernel_rfl
@[simp] theorem aggT_59 : aggT Try.prog 59 = some false := by kernel_rfl
@[simp] theorem zeroT_59 : zeroT Try.prog 59 = some [.nilFunc] := by kernel_rfl
@[simp] theorem eqK_59 : eqK Try.prog 59 = .func := by kernel_rfl
@[simp] theorem concT_59 : concT Try.prog 59 = true := by kernel_rfl
@[simp] theorem nintT_59 : nintT Try.prog 59 = true := by kernel_rfl
@[simp] theorem szT_60 : szT Try.prog 60 = some 1 := by kernel_rfl
@[simp] theorem byT_60 : byT Try.prog 60 = some 8 := by kernel_rfl
@[simp] theorem aggT_60 : aggT Try.prog 60 = some false := by kernel_rfl
@[simp] theorem zeroT_60 : zeroT Try.prog 60 = some [.nilFunc] := by kernel_rfl
@[simp] theorem eqK_60 : eqK Try.prog 60 = .func := by kernel_rfl
@[simp] theorem concT_60 : concT Try.prog 60 = true := by kernel_rfl
@[simp] theorem nintT_60 : nintT Try.prog 60 = true := by kernel_rfl
@[simp] theorem szT_61 : szT Try.prog 61 = some 4 := by kernel_rfl
@[simp] theorem byT_61 : byT Try.prog 61 = some 40 := by kernel_rfl
@[simp] theorem aggT_61 : aggT Try.prog 61 = some true := by kernel_rfl
@[simp] theorem zeroT_61 : zeroT Try.prog 61 = some [.nilptr, .nilptr, .nilptr, .str ⟨#[]⟩] := by kernel_rfl
@[simp] theorem fieldsT_61_0 : fieldsT Try.prog 61 0 = some (0, 17) := by kernel_rfl
@[simp] theorem fieldO_61_0 : fieldO Try.prog 61 0 = some 0 := by kernel_rfl
@[simp] theorem fieldsT_61_1 : fieldsT Try.prog 61 1 = some (1, 17) := by kernel_rfl
@[simp] theorem fieldO_61_1 : fieldO Try.prog 61 1 = some 1 := by kernel_rfl
@[simp] theorem fieldsT_61_2 : fieldsT Try.prog 61 2 = some (2, 17) := by kernel_rfl
@[simp] theorem fieldO_61_2 : fieldO Try.prog 61 2 = some 2 := by kernel_rfl
@[simp] theorem fieldsT_61_3 : fieldsT Try.prog 61 3 = some (3, 9) := by kernel_rfl
@[simp] theorem fieldO_61_3 : fieldO Try.prog 61 3 = some 3 := by kernel_rfl
@[simp] theorem placesT_61 : placesT Try.prog 61 = some [(0, 1), (1, 1), (2, 1), (3, 1)] := by kernel_rfl
@[simp] theorem arrT_61 : arrT Try.prog 61 = none := by kernel_rfl
@[simp] theorem eqG_61 : Program.eqGuardType Try.prog (Program.depth Try.prog) 61 = false := by kernel_rfl
@[simp] theorem concT_61 : concT Try.prog 61 = true := by kernel_rfl
@[simp] theorem nintT_61 : nintT Try.prog 61 = true := by kernel_rfl
@[simp] theorem szT_63 : szT Try.prog 63 = some 0 := by kernel_rfl
@[simp] theorem byT_63 : byT Try.prog 63 = some 0 := by kernel_rfl
@[simp] theorem aggT_63 : aggT Try.prog 63 = some true := by kernel_rfl
@[simp] theorem zeroT_63 : zeroT Try.prog 63 = some [] := by kernel_rfl
@[simp] theorem arrT_63 : arrT Try.prog 63 = some (0, 16) := by kernel_rfl
@[simp] theorem eqK_63 : eqK Try.prog 63 = .array 0 16 1 := by kernel_rfl
@[simp] theorem lenK_63 : lenK Try.prog 63 = .arr 0 := by kernel_rfl
@[simp] theorem eqG_63 : Program.eqGuardType Try.prog (Program.depth Try.prog) 63 = false := by kernel_rfl
@[simp] theorem concT_63 : concT Try.prog 63 = true := by kernel_rfl
@[simp] theorem nintT_63 : nintT Try.prog 63 = true := by kernel_rfl
@[simp] theorem szT_64 : szT Try.prog 64 = some 0 := by kernel_rfl
@[simp] theorem byT_64 : byT Try.prog 64 = some 0 := by kernel_rfl
@[simp] theorem aggT_64 : aggT Try.prog 64 = some true := by kernel_rfl
@[simp] theorem zeroT_64 : zeroT Try.prog 64 = some [] := by kernel_rfl
@[simp] theorem fieldsT_64_0 : fieldsT Try.prog 64 0 = some (0, 63) := by kernel_rfl
@[simp] theorem placesT_64 : placesT Try.prog 64 = some [(0, 0)] := by kernel_rfl
@[simp] theorem arrT_64 : arrT Try.prog 64 = none := by kernel_rfl
@[simp] theorem eqG_64 : Program.eqGuardType Try.prog (Program.depth Try.prog) 64 = false := by kernel_rfl
@[simp] theorem concT_64 : concT Try.prog 64 = true := by kernel_rfl
@[simp] theorem nintT_64 : nintT Try.prog 64 = true := by kernel_rfl
@[simp] theorem szT_66 : szT Try.prog 66 = some 1 := by kernel_rfl
@[simp] theorem byT_66 : byT Try.prog 66 = some 4 := by kernel_rfl
@[simp] theorem aggT_66 : aggT Try.prog 66 = some false := by kernel_rfl
@[simp] theorem zeroT_66 : zeroT Try.prog 66 = some [.int .u32 0] := by kernel_rfl
@[simp] theorem eqK_66 : eqK Try.prog 66 = .int := by kernel_rfl
@[simp] theorem concT_66 : concT Try.prog 66 = true := by kernel_rfl
@[simp] theorem szT_69 : szT Try.prog 69 = some 1 := by kernel_rfl
@[simp] theorem byT_69 : byT Try.prog 69 = some 8 := by kernel_rfl
@[simp] theorem aggT_69 : aggT Try.prog 69 = some false := by kernel_rfl
@[simp] theorem zeroT_69 : zeroT Try.prog 69 = some [.nilFunc] := by kernel_rfl
@[simp] theorem eqK_69 : eqK Try.prog 69 = .func := by kernel_rfl
@[simp] theorem concT_69 : concT Try.prog 69 = true := by kernel_rfl
@[simp] theorem nintT_69 : nintT Try.prog 69 = true := by kernel_rfl
@[simp] theorem szT_70 : szT Try.prog 70 = some 1 := by kernel_rfl
@[simp] theorem byT_70 : byT Try.prog 70 = some 8 := by kernel_rfl
@[simp] theorem aggT_70 : aggT Try.prog 70 = some false := by kernel_rfl
@[simp] theorem zeroT_70 : zeroT Try.prog 70 = some [.nilptr] := by kernel_rfl
@[simp] theorem eqK_70 : eqK Try.prog 70 = .pointer := by kernel_rfl
@[simp] theorem concT_70 : concT Try.prog 70 = true := by kernel_rfl
@[simp] theorem nintT_70 : nintT Try.prog 70 = true := by kernel_rfl
@[simp] theorem szT_73 : szT Try.prog 73 = some 11 := by kernel_rfl
@[simp] theorem byT_73 : byT Try.prog 73 = some 48 := by kernel_rfl
@[simp] theorem aggT_73 : aggT Try.prog 73 = some true := by kernel_rfl
@[simp] theorem zeroT_73 : zeroT Try.prog 73 = some [.int .u64 0, .int .u64 0, .int .u32 0, .int .u8 0, .int .u8 0, .int .u8 0, .int .u8 0, .nilFunc, .nilptr, .int .i32 0, .int .i32 0] := by kernel_rfl
@[simp] theorem fieldsT_73_0 : fieldsT Try.prog 73 0 = some (0, 12) := by kernel_rfl
@[simp] theorem fieldO_73_0 : fieldO Try.prog 73 0 = some 0 := by kernel_rfl
@[simp] theorem fieldsT_73_1 : fieldsT Try.prog 73 1 = some (1, 12) := by kernel_rfl
@[simp] theorem fieldO_73_1 : fieldO Try.prog 73 1 = some 1 := by kernel_rfl
@[simp] theorem fieldsT_73_2 : fieldsT Try.prog 73 2 = some (2, 66) := by kernel_rfl
@[simp] theorem fieldO_73_2 : fieldO Try.prog 73 2 = some 2 := by kernel_rfl
@[simp] theorem fieldsT_73_3 : fieldsT Try.prog 73 3 = some (3, 67) := by kernel_rfl
@[simp] theorem fieldO_73_3 : fieldO Try.prog 73 3 = some 3 := by kernel_rfl
@[simp] theorem fieldsT_73_4 : fieldsT Try.prog 73 4 = some (4, 5) := by kernel_rfl
@[simp] theorem fieldO_73_4 : fieldO Try.prog 73 4 = some 4 := by kernel_rfl
@[simp] theorem fieldsT_73_5 : fieldsT Try.prog 73 5 = some (5, 5) := by kernel_rfl
@[simp] theorem fieldO_73_5 : fieldO Try.prog 73 5 = some 5 := by kernel_rfl
@[simp] theorem fieldsT_73_6 : fieldsT Try.prog 73 6 = some (6, 68) := by kernel_rfl
@[simp] theorem fieldO_73_6 : fieldO Try.prog 73 6 = some 6 := by kernel_rfl
@[simp] theorem fieldsT_73_7 : fieldsT Try.prog 73 7 = some (7, 69) := by kernel_rfl
@[simp] theorem fieldO_73_7 : fieldO Try.prog 73 7 = some 7 := by kernel_rfl
@[simp] theorem fieldsT_73_8 : fieldsT Try.prog 73 8 = some (8, 70) := by kernel_rfl
@[simp] theorem fieldO_73_8 : fieldO Try.prog 73 8 = some 8 := by kernel_rfl
@[simp] theorem fieldsT_73_9 : fieldsT Try.prog 73 9 = some (9, 71) := by kernel_rfl
@[simp] theorem fieldO_73_9 : fieldO Try.prog 73 9 = some 9 := by kernel_rfl
@[simp] theorem fieldsT_73_10 : fieldsT Try.prog 73 10 = some (10, 72) := by kernel_rfl
@[simp] theorem fieldO_73_10 : fieldO Try.prog 73 10 = some 10 := by kernel_rfl
@[simp] theorem placesT_73 : placesT Try.prog 73 = some [(0, 1), (1, 1), (2, 1), (3, 1), (4, 1), (5, 1), (6, 1), (7, 1), (8, 1), (9, 1), (10, 1)] := by kernel_rfl
@[simp] theorem arrT_73 : arrT Try.prog 73 = none := by kernel_rfl
@[simp] theorem eqG_73 : Program.eqGuardType Try.prog (Program.depth Try.prog) 73 = false := by kernel_rfl
@[simp] theorem concT_73 : concT Try.prog 73 = true := by kernel_rfl
@[simp] theorem nintT_73 : nintT Try.prog 73 = true := by kernel_rfl
@[simp] theorem szT_75 : szT Try.prog 75 = some 1 := by kernel_rfl
@[simp] theorem byT_75 : byT Try.prog 75 = some 8 := by kernel_rfl
@[simp] theorem aggT_75 : aggT Try.prog 75 = some false := by kernel_rfl
@[simp] theorem zeroT_75 : zeroT Try.prog 75 = some [.nilFunc] := by kernel_rfl
@[simp] theorem eqK_75 : eqK Try.prog 75 = .func := by kernel_rfl
@[simp] theorem concT_75 : concT Try.prog 75 = true := by kernel_rfl
@[simp] theorem nintT_75 : nintT Try.prog 75 = true := by kernel_rfl
@[simp] theorem szT_76 : szT Try.prog 76 = some 1 := by kernel_rfl
@[simp] theorem byT_76 : byT Try.prog 76 = some 8 := by kernel_rfl
@[simp] theorem aggT_76 : aggT Try.prog 76 = some false := by kernel_rfl
@[simp] theorem zeroT_76 : zeroT Try.prog 76 = some [.nilptr] := by kernel_rfl
@[simp] theorem concT_76 : concT Try.prog 76 = true := by kernel_rfl
@[simp] theorem nintT_76 : nintT Try.prog 76 = true := by kernel_rfl
@[simp] theorem callT_3 : callT Try.prog 3 = true := by kernel_rfl
@[simp] theorem callT_4 : callT Try.prog 4 = true := by kernel_rfl
@[simp] theorem callT_5 : callT Try.prog 5 = true := by kernel_rfl
@[simp] theorem callT_6 : callT Try.prog 6 = true := by kernel_rfl
@[simp] theorem callT_7 : callT Try.prog 7 = true := by kernel_rfl
@[simp] theorem callT_8 : callT Try.prog 8 = true := by kernel_rfl
@[simp] theorem callT_9 : callT Try.prog 9 = true := by kernel_rfl
@[simp] theorem callT_10 : callT Try.prog 10 = true := by kernel_rfl
@[simp] theorem callT_11 : callT Try.prog 11 = true := by kernel_rfl
@[simp] theorem callT_12 : callT Try.prog 12 = true := by kernel_rfl
@[simp] theorem callT_13 : callT Try.prog 13 = true := by kernel_rfl
@[simp] theorem callT_14 : callT Try.prog 14 = true := by kernel_rfl
@[simp] theorem callT_15 : callT Try.prog 15 = true := by kernel_rfl
@[simp] theorem callT_16 : callT Try.prog 16 = true := by kernel_rfl
@[simp] theorem callT_17 : callT Try.prog 17 = true := by kernel_rfl
@[simp] theorem callT_18 : callT Try.prog 18 = true := by kernel_rfl
@[simp] theorem callT_19 : callT Try.prog 19 = true := by kernel_rfl
@[simp] theorem callT_20 : callT Try.prog 20 = true := by kernel_rfl
@[simp] theorem callT_21 : callT Try.prog 21 = true := by kernel_rfl
@[simp] theorem callT_22 : callT Try.prog 22 = true := by kernel_rfl
@[simp] theorem callT_23 : callT Try.prog 23 = true := by kernel_rfl
@[simp] theorem callT_24 : callT Try.prog 24 = true := by kernel_rfl
@[simp] theorem callT_25 : callT Try.prog 25 = true := by kernel_rfl
@[simp] theorem callT_42 : callT Try.prog 42 = true := by kernel_rfl
@[simp] theorem callT_43 : callT Try.prog 43 = true := by kernel_rfl
@[simp] theorem callT_44 : callT Try.prog 44 = true := by kernel_rfl
@[simp] theorem callT_45 : callT Try.prog 45 = true := by kernel_rfl
end Go.Proofs.Ytngemikgnlgjcaa.V
