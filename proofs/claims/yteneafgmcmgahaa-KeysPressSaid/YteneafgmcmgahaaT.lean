/- Facts about this seat's types and functions, printed by my own program; each is checked by the kernel. -/
import Derived.Test.YteneafgmcmgahaaProg
import Derived.Test.YteneafgmcmgahaaV9
import Derived.KernelRfl
namespace Go.Proofs.Yteneafgmcmgahaa.V
open Go Go.Proofs
@[simp] theorem szT_1 : szT Try.prog 1 = some 1 := by kernel_rfl
@[simp] theorem byT_1 : byT Try.prog 1 = some 8 := by kernel_rfl
@[simp] theorem aggT_1 : aggT Try.prog 1 = some false := by kernel_rfl
@[simp] theorem zeroT_1 : zeroT Try.prog 1 = some [.nilFunc] := by kernel_rfl
@[simp] theorem eqK_1 : eqK Try.prog 1 = .func := by kernel_rfl
@[simp] theorem concT_1 : concT Try.prog 1 = true := by kernel_rfl
@[simp] theorem nintT_1 : nintT Try.prog 1 = true := by kernel_rfl
@[simp] theorem szT_2 : szT Try.prog 2 = some 1 := by kernel_rfl
@[simp] theorem byT_2 : byT Try.prog 2 = some 8 := by kernel_rfl
@[simp] theorem aggT_2 : aggT Try.prog 2 = some false := by kernel_rfl
@[simp] theorem zeroT_2 : zeroT Try.prog 2 = some [.int .i64 0] := by kernel_rfl
@[simp] theorem eqK_2 : eqK Try.prog 2 = .int := by kernel_rfl
@[simp] theorem concT_2 : concT Try.prog 2 = true := by kernel_rfl
@[simp] theorem szT_3 : szT Try.prog 3 = some 1 := by kernel_rfl
@[simp] theorem byT_3 : byT Try.prog 3 = some 8 := by kernel_rfl
@[simp] theorem aggT_3 : aggT Try.prog 3 = some false := by kernel_rfl
@[simp] theorem zeroT_3 : zeroT Try.prog 3 = some [.int .i64 0] := by kernel_rfl
@[simp] theorem eqK_3 : eqK Try.prog 3 = .int := by kernel_rfl
@[simp] theorem concT_3 : concT Try.prog 3 = true := by kernel_rfl
@[simp] theorem szT_4 : szT Try.prog 4 = some 1 := by kernel_rfl
@[simp] theorem byT_4 : byT Try.prog 4 = some 1 := by kernel_rfl
@[simp] theorem aggT_4 : aggT Try.prog 4 = some false := by kernel_rfl
@[simp] theorem zeroT_4 : zeroT Try.prog 4 = some [.bool false] := by kernel_rfl
@[simp] theorem eqK_4 : eqK Try.prog 4 = .bool := by kernel_rfl
@[simp] theorem concT_4 : concT Try.prog 4 = true := by kernel_rfl
@[simp] theorem nintT_4 : nintT Try.prog 4 = true := by kernel_rfl
@[simp] theorem szT_5 : szT Try.prog 5 = some 1 := by kernel_rfl
@[simp] theorem byT_5 : byT Try.prog 5 = some 1 := by kernel_rfl
@[simp] theorem aggT_5 : aggT Try.prog 5 = some false := by kernel_rfl
@[simp] theorem zeroT_5 : zeroT Try.prog 5 = some [.int .u8 0] := by kernel_rfl
@[simp] theorem eqK_5 : eqK Try.prog 5 = .int := by kernel_rfl
@[simp] theorem concT_5 : concT Try.prog 5 = true := by kernel_rfl
@[simp] theorem szT_7 : szT Try.prog 7 = some 4 := by kernel_rfl
@[simp] theorem byT_7 : byT Try.prog 7 = some 24 := by kernel_rfl
@[simp] theorem aggT_7 : aggT Try.prog 7 = some true := by kernel_rfl
@[simp] theorem zeroT_7 : zeroT Try.prog 7 = some [.int .i64 0, .int .i64 0, .bool false, .int .u8 0] := by kernel_rfl
@[simp] theorem fieldsT_7_0 : fieldsT Try.prog 7 0 = some (0, 2) := by kernel_rfl
@[simp] theorem fieldO_7_0 : fieldO Try.prog 7 0 = some 0 := by kernel_rfl
@[simp] theorem fieldsT_7_1 : fieldsT Try.prog 7 1 = some (1, 3) := by kernel_rfl
@[simp] theorem fieldO_7_1 : fieldO Try.prog 7 1 = some 1 := by kernel_rfl
@[simp] theorem fieldsT_7_2 : fieldsT Try.prog 7 2 = some (2, 4) := by kernel_rfl
@[simp] theorem fieldO_7_2 : fieldO Try.prog 7 2 = some 2 := by kernel_rfl
@[simp] theorem fieldsT_7_3 : fieldsT Try.prog 7 3 = some (3, 6) := by kernel_rfl
@[simp] theorem fieldO_7_3 : fieldO Try.prog 7 3 = some 3 := by kernel_rfl
@[simp] theorem placesT_7 : placesT Try.prog 7 = some [(0, 1), (1, 1), (2, 1), (3, 1)] := by kernel_rfl
@[simp] theorem arrT_7 : arrT Try.prog 7 = none := by kernel_rfl
@[simp] theorem eqK_7 : eqK Try.prog 7 = .struct [(2, 0), (3, 1), (4, 2), (6, 3)] := by kernel_rfl
@[simp] theorem eqG_7 : Program.eqGuardType Try.prog (Program.depth Try.prog) 7 = false := by kernel_rfl
@[simp] theorem concT_7 : concT Try.prog 7 = true := by kernel_rfl
@[simp] theorem nintT_7 : nintT Try.prog 7 = true := by kernel_rfl
@[simp] theorem szT_9 : szT Try.prog 9 = some 1 := by kernel_rfl
@[simp] theorem byT_9 : byT Try.prog 9 = some 16 := by kernel_rfl
@[simp] theorem aggT_9 : aggT Try.prog 9 = some false := by kernel_rfl
@[simp] theorem zeroT_9 : zeroT Try.prog 9 = some [.str ⟨#[]⟩] := by kernel_rfl
@[simp] theorem isStr_9 : isStr Try.prog 9 = true := by kernel_rfl
@[simp] theorem lenK_9 : lenK Try.prog 9 = .str := by kernel_rfl
@[simp] theorem eqK_9 : eqK Try.prog 9 = .string := by kernel_rfl
@[simp] theorem concT_9 : concT Try.prog 9 = true := by kernel_rfl
@[simp] theorem nintT_9 : nintT Try.prog 9 = true := by kernel_rfl
@[simp] theorem szT_12 : szT Try.prog 12 = some 1 := by kernel_rfl
@[simp] theorem byT_12 : byT Try.prog 12 = some 8 := by kernel_rfl
@[simp] theorem aggT_12 : aggT Try.prog 12 = some false := by kernel_rfl
@[simp] theorem zeroT_12 : zeroT Try.prog 12 = some [.int .u64 0] := by kernel_rfl
@[simp] theorem eqK_12 : eqK Try.prog 12 = .int := by kernel_rfl
@[simp] theorem concT_12 : concT Try.prog 12 = true := by kernel_rfl
@[simp] theorem szT_13 : szT Try.prog 13 = some 2 := by kernel_rfl
@[simp] theorem byT_13 : byT Try.prog 13 = some 24 := by kernel_rfl
@[simp] theorem aggT_13 : aggT Try.prog 13 = some true := by kernel_rfl
@[simp] theorem zeroT_13 : zeroT Try.prog 13 = some [.str ⟨#[]⟩, .int .u64 0] := by kernel_rfl
@[simp] theorem fieldsT_13_0 : fieldsT Try.prog 13 0 = some (0, 9) := by kernel_rfl
@[simp] theorem fieldO_13_0 : fieldO Try.prog 13 0 = some 0 := by kernel_rfl
@[simp] theorem fieldsT_13_1 : fieldsT Try.prog 13 1 = some (1, 12) := by kernel_rfl
@[simp] theorem fieldO_13_1 : fieldO Try.prog 13 1 = some 1 := by kernel_rfl
@[simp] theorem placesT_13 : placesT Try.prog 13 = some [(0, 1), (1, 1)] := by kernel_rfl
@[simp] theorem arrT_13 : arrT Try.prog 13 = none := by kernel_rfl
@[simp] theorem eqG_13 : Program.eqGuardType Try.prog (Program.depth Try.prog) 13 = false := by kernel_rfl
@[simp] theorem concT_13 : concT Try.prog 13 = true := by kernel_rfl
@[simp] theorem nintT_13 : nintT Try.prog 13 = true := by kernel_rfl
@[simp] theorem szT_15 : szT Try.prog 15 = some 1 := by kernel_rfl
@[simp] theorem byT_15 : byT Try.prog 15 = some 8 := by kernel_rfl
@[simp] theorem aggT_15 : aggT Try.prog 15 = some false := by kernel_rfl
@[simp] theorem zeroT_15 : zeroT Try.prog 15 = some [.nilptr] := by kernel_rfl
@[simp] theorem eqK_15 : eqK Try.prog 15 = .pointer := by kernel_rfl
@[simp] theorem concT_15 : concT Try.prog 15 = true := by kernel_rfl
@[simp] theorem nintT_15 : nintT Try.prog 15 = true := by kernel_rfl
@[simp] theorem szT_16 : szT Try.prog 16 = some 1 := by kernel_rfl
@[simp] theorem byT_16 : byT Try.prog 16 = some 8 := by kernel_rfl
@[simp] theorem aggT_16 : aggT Try.prog 16 = some false := by kernel_rfl
@[simp] theorem zeroT_16 : zeroT Try.prog 16 = some [.nilptr] := by kernel_rfl
@[simp] theorem eqK_16 : eqK Try.prog 16 = .pointer := by kernel_rfl
@[simp] theorem concT_16 : concT Try.prog 16 = true := by kernel_rfl
@[simp] theorem nintT_16 : nintT Try.prog 16 = true := by kernel_rfl
@[simp] theorem szT_17 : szT Try.prog 17 = some 1 := by kernel_rfl
@[simp] theorem byT_17 : byT Try.prog 17 = some 8 := by kernel_rfl
@[simp] theorem aggT_17 : aggT Try.prog 17 = some false := by kernel_rfl
@[simp] theorem zeroT_17 : zeroT Try.prog 17 = some [.nilptr] := by kernel_rfl
@[simp] theorem eqK_17 : eqK Try.prog 17 = .pointer := by kernel_rfl
@[simp] theorem concT_17 : concT Try.prog 17 = true := by kernel_rfl
@[simp] theorem nintT_17 : nintT Try.prog 17 = true := by kernel_rfl
@[simp] theorem szT_18 : szT Try.prog 18 = some 1 := by kernel_rfl
@[simp] theorem byT_18 : byT Try.prog 18 = some 8 := by kernel_rfl
@[simp] theorem aggT_18 : aggT Try.prog 18 = some true := by kernel_rfl
@[simp] theorem zeroT_18 : zeroT Try.prog 18 = some [.nilptr] := by kernel_rfl
@[simp] theorem fieldsT_18_0 : fieldsT Try.prog 18 0 = some (0, 17) := by kernel_rfl
@[simp] theorem fieldO_18_0 : fieldO Try.prog 18 0 = some 0 := by kernel_rfl
@[simp] theorem placesT_18 : placesT Try.prog 18 = some [(0, 1)] := by kernel_rfl
@[simp] theorem arrT_18 : arrT Try.prog 18 = none := by kernel_rfl
@[simp] theorem eqG_18 : Program.eqGuardType Try.prog (Program.depth Try.prog) 18 = false := by kernel_rfl
@[simp] theorem concT_18 : concT Try.prog 18 = true := by kernel_rfl
@[simp] theorem nintT_18 : nintT Try.prog 18 = true := by kernel_rfl
@[simp] theorem szT_20 : szT Try.prog 20 = some 1 := by kernel_rfl
@[simp] theorem byT_20 : byT Try.prog 20 = some 16 := by kernel_rfl
@[simp] theorem aggT_20 : aggT Try.prog 20 = some false := by kernel_rfl
@[simp] theorem zeroT_20 : zeroT Try.prog 20 = some [.nilIface] := by kernel_rfl
@[simp] theorem eqK_20 : eqK Try.prog 20 = .iface := by kernel_rfl
@[simp] theorem nintT_20 : nintT Try.prog 20 = true := by kernel_rfl
@[simp] theorem szT_21 : szT Try.prog 21 = some 1 := by kernel_rfl
@[simp] theorem byT_21 : byT Try.prog 21 = some 4 := by kernel_rfl
@[simp] theorem aggT_21 : aggT Try.prog 21 = some false := by kernel_rfl
@[simp] theorem zeroT_21 : zeroT Try.prog 21 = some [.int .i32 0] := by kernel_rfl
@[simp] theorem eqK_21 : eqK Try.prog 21 = .int := by kernel_rfl
@[simp] theorem concT_21 : concT Try.prog 21 = true := by kernel_rfl
@[simp] theorem szT_22 : szT Try.prog 22 = some 1 := by kernel_rfl
@[simp] theorem byT_22 : byT Try.prog 22 = some 24 := by kernel_rfl
@[simp] theorem aggT_22 : aggT Try.prog 22 = some false := by kernel_rfl
@[simp] theorem zeroT_22 : zeroT Try.prog 22 = some [.nilslice] := by kernel_rfl
@[simp] theorem sliT_22 : sliT Try.prog 22 = some 3 := by kernel_rfl
@[simp] theorem lenK_22 : lenK Try.prog 22 = .slice := by kernel_rfl
@[simp] theorem eqK_22 : eqK Try.prog 22 = .slice := by kernel_rfl
@[simp] theorem arrT_22 : arrT Try.prog 22 = none := by kernel_rfl
@[simp] theorem concT_22 : concT Try.prog 22 = true := by kernel_rfl
@[simp] theorem nintT_22 : nintT Try.prog 22 = true := by kernel_rfl
@[simp] theorem szT_23 : szT Try.prog 23 = some 1 := by kernel_rfl
@[simp] theorem byT_23 : byT Try.prog 23 = some 8 := by kernel_rfl
@[simp] theorem aggT_23 : aggT Try.prog 23 = some false := by kernel_rfl
@[simp] theorem zeroT_23 : zeroT Try.prog 23 = some [.nilFunc] := by kernel_rfl
@[simp] theorem eqK_23 : eqK Try.prog 23 = .func := by kernel_rfl
@[simp] theorem concT_23 : concT Try.prog 23 = true := by kernel_rfl
@[simp] theorem nintT_23 : nintT Try.prog 23 = true := by kernel_rfl
@[simp] theorem szT_24 : szT Try.prog 24 = some 1 := by kernel_rfl
@[simp] theorem byT_24 : byT Try.prog 24 = some 24 := by kernel_rfl
@[simp] theorem aggT_24 : aggT Try.prog 24 = some false := by kernel_rfl
@[simp] theorem zeroT_24 : zeroT Try.prog 24 = some [.nilslice] := by kernel_rfl
@[simp] theorem sliT_24 : sliT Try.prog 24 = some 39 := by kernel_rfl
@[simp] theorem lenK_24 : lenK Try.prog 24 = .slice := by kernel_rfl
@[simp] theorem eqK_24 : eqK Try.prog 24 = .slice := by kernel_rfl
@[simp] theorem arrT_24 : arrT Try.prog 24 = none := by kernel_rfl
@[simp] theorem concT_24 : concT Try.prog 24 = true := by kernel_rfl
@[simp] theorem nintT_24 : nintT Try.prog 24 = true := by kernel_rfl
@[simp] theorem szT_25 : szT Try.prog 25 = some 1 := by kernel_rfl
@[simp] theorem byT_25 : byT Try.prog 25 = some 8 := by kernel_rfl
@[simp] theorem aggT_25 : aggT Try.prog 25 = some false := by kernel_rfl
@[simp] theorem zeroT_25 : zeroT Try.prog 25 = some [.int .i64 0] := by kernel_rfl
@[simp] theorem eqK_25 : eqK Try.prog 25 = .int := by kernel_rfl
@[simp] theorem concT_25 : concT Try.prog 25 = true := by kernel_rfl
@[simp] theorem szT_27 : szT Try.prog 27 = some 1 := by kernel_rfl
@[simp] theorem byT_27 : byT Try.prog 27 = some 8 := by kernel_rfl
@[simp] theorem aggT_27 : aggT Try.prog 27 = some false := by kernel_rfl
@[simp] theorem zeroT_27 : zeroT Try.prog 27 = some [.nilFunc] := by kernel_rfl
@[simp] theorem eqK_27 : eqK Try.prog 27 = .func := by kernel_rfl
@[simp] theorem concT_27 : concT Try.prog 27 = true := by kernel_rfl
@[simp] theorem nintT_27 : nintT Try.prog 27 = true := by kernel_rfl
@[simp] theorem szT_28 : szT Try.prog 28 = some 1 := by kernel_rfl
@[simp] theorem byT_28 : byT Try.prog 28 = some 8 := by kernel_rfl
@[simp] theorem aggT_28 : aggT Try.prog 28 = some false := by kernel_rfl
@[simp] theorem zeroT_28 : zeroT Try.prog 28 = some [.nilFunc] := by kernel_rfl
@[simp] theorem eqK_28 : eqK Try.prog 28 = .func := by kernel_rfl
@[simp] theorem concT_28 : concT Try.prog 28 = true := by kernel_rfl
@[simp] theorem nintT_28 : nintT Try.prog 28 = true := by kernel_rfl
@[simp] theorem szT_29 : szT Try.prog 29 = some 1 := by kernel_rfl
@[simp] theorem byT_29 : byT Try.prog 29 = some 8 := by kernel_rfl
@[simp] theorem aggT_29 : aggT Try.prog 29 = some false := by kernel_rfl
@[simp] theorem zeroT_29 : zeroT Try.prog 29 = some [.nilFunc] := by kernel_rfl
@[simp] theorem eqK_29 : eqK Try.prog 29 = .func := by kernel_rfl
@[simp] theorem concT_29 : concT Try.prog 29 = true := by kernel_rfl
@[simp] theorem nintT_29 : nintT Try.prog 29 = true := by kernel_rfl
@[simp] theorem szT_30 : szT Try.prog 30 = some 1 := by kernel_rfl
@[simp] theorem byT_30 : byT Try.prog 30 = some 8 := by kernel_rfl
@[simp] theorem aggT_30 : aggT Try.prog 30 = some false := by kernel_rfl
@[simp] theorem zeroT_30 : zeroT Try.prog 30 = some [.nilFunc] := by kernel_rfl
@[simp] theorem eqK_30 : eqK Try.prog 30 = .func := by kernel_rfl
@[simp] theorem concT_30 : concT Try.prog 30 = true := by kernel_rfl
@[simp] theorem nintT_30 : nintT Try.prog 30 = true := by kernel_rfl
@[simp] theorem szT_31 : szT Try.prog 31 = some 1 := by kernel_rfl
@[simp] theorem byT_31 : byT Try.prog 31 = some 8 := by kernel_rfl
@[simp] theorem aggT_31 : aggT Try.prog 31 = some false := by kernel_rfl
@[simp] theorem zeroT_31 : zeroT Try.prog 31 = some [.nilFunc] := by kernel_rfl
@[simp] theorem eqK_31 : eqK Try.prog 31 = .func := by kernel_rfl
@[simp] theorem concT_31 : concT Try.prog 31 = true := by kernel_rfl
@[simp] theorem nintT_31 : nintT Try.prog 31 = true := by kernel_rfl
@[simp] theorem szT_32 : szT Try.prog 32 = some 1 := by kernel_rfl
@[simp] theorem byT_32 : byT Try.prog 32 = some 8 := by kernel_rfl
@[simp] theorem aggT_32 : aggT Try.prog 32 = some false := by kernel_rfl
@[simp] theorem zeroT_32 : zeroT Try.prog 32 = some [.nilFunc] := by kernel_rfl
@[simp] theorem eqK_32 : eqK Try.prog 32 = .func := by kernel_rfl
@[simp] theorem concT_32 : concT Try.prog 32 = true := by kernel_rfl
@[simp] theorem nintT_32 : nintT Try.prog 32 = true := by kernel_rfl
@[simp] theorem szT_33 : szT Try.prog 33 = some 1 := by kernel_rfl
@[simp] theorem byT_33 : byT Try.prog 33 = some 8 := by kernel_rfl
@[simp] theorem aggT_33 : aggT Try.prog 33 = some false := by kernel_rfl
@[simp] theorem zeroT_33 : zeroT Try.prog 33 = some [.nilFunc] := by kernel_rfl
@[simp] theorem eqK_33 : eqK Try.prog 33 = .func := by kernel_rfl
@[simp] theorem concT_33 : concT Try.prog 33 = true := by kernel_rfl
@[simp] theorem nintT_33 : nintT Try.prog 33 = true := by kernel_rfl
@[simp] theorem szT_34 : szT Try.prog 34 = some 1 := by kernel_rfl
@[simp] theorem byT_34 : byT Try.prog 34 = some 8 := by kernel_rfl
@[simp] theorem aggT_34 : aggT Try.prog 34 = some false := by kernel_rfl
@[simp] theorem zeroT_34 : zeroT Try.prog 34 = some [.nilFunc] := by kernel_rfl
@[simp] theorem eqK_34 : eqK Try.prog 34 = .func := by kernel_rfl
@[simp] theorem concT_34 : concT Try.prog 34 = true := by kernel_rfl
@[simp] theorem nintT_34 : nintT Try.prog 34 = true := by kernel_rfl
@[simp] theorem szT_35 : szT Try.prog 35 = some 1 := by kernel_rfl
@[simp] theorem byT_35 : byT Try.prog 35 = some 8 := by kernel_rfl
@[simp] theorem aggT_35 : aggT Try.prog 35 = some false := by kernel_rfl
@[simp] theorem zeroT_35 : zeroT Try.prog 35 = some [.nilFunc] := by kernel_rfl
@[simp] theorem eqK_35 : eqK Try.prog 35 = .func := by kernel_rfl
@[simp] theorem concT_35 : concT Try.prog 35 = true := by kernel_rfl
@[simp] theorem nintT_35 : nintT Try.prog 35 = true := by kernel_rfl
@[simp] theorem szT_36 : szT Try.prog 36 = some 1 := by kernel_rfl
@[simp] theorem byT_36 : byT Try.prog 36 = some 8 := by kernel_rfl
@[simp] theorem aggT_36 : aggT Try.prog 36 = some false := by kernel_rfl
@[simp] theorem zeroT_36 : zeroT Try.prog 36 = some [.nilFunc] := by kernel_rfl
@[simp] theorem eqK_36 : eqK Try.prog 36 = .func := by kernel_rfl
@[simp] theorem concT_36 : concT Try.prog 36 = true := by kernel_rfl
@[simp] theorem nintT_36 : nintT Try.prog 36 = true := by kernel_rfl
@[simp] theorem szT_37 : szT Try.prog 37 = some 1 := by kernel_rfl
@[simp] theorem byT_37 : byT Try.prog 37 = some 24 := by kernel_rfl
@[simp] theorem aggT_37 : aggT Try.prog 37 = some false := by kernel_rfl
@[simp] theorem zeroT_37 : zeroT Try.prog 37 = some [.nilslice] := by kernel_rfl
@[simp] theorem sliT_37 : sliT Try.prog 37 = some 4 := by kernel_rfl
@[simp] theorem lenK_37 : lenK Try.prog 37 = .slice := by kernel_rfl
@[simp] theorem eqK_37 : eqK Try.prog 37 = .slice := by kernel_rfl
@[simp] theorem arrT_37 : arrT Try.prog 37 = none := by kernel_rfl
@[simp] theorem concT_37 : concT Try.prog 37 = true := by kernel_rfl
@[simp] theorem nintT_37 : nintT Try.prog 37 = true := by kernel_rfl
@[simp] theorem szT_38 : szT Try.prog 38 = some 4 := by kernel_rfl
@[simp] theorem byT_38 : byT Try.prog 38 = some 32 := by kernel_rfl
@[simp] theorem aggT_38 : aggT Try.prog 38 = some true := by kernel_rfl
@[simp] theorem zeroT_38 : zeroT Try.prog 38 = some [.int .i64 0, .int .i64 0, .int .i64 0, .bool false] := by kernel_rfl
@[simp] theorem fieldsT_38_0 : fieldsT Try.prog 38 0 = some (0, 2) := by kernel_rfl
@[simp] theorem fieldO_38_0 : fieldO Try.prog 38 0 = some 0 := by kernel_rfl
@[simp] theorem fieldsT_38_1 : fieldsT Try.prog 38 1 = some (1, 3) := by kernel_rfl
@[simp] theorem fieldO_38_1 : fieldO Try.prog 38 1 = some 1 := by kernel_rfl
@[simp] theorem fieldsT_38_2 : fieldsT Try.prog 38 2 = some (2, 3) := by kernel_rfl
@[simp] theorem fieldO_38_2 : fieldO Try.prog 38 2 = some 2 := by kernel_rfl
@[simp] theorem fieldsT_38_3 : fieldsT Try.prog 38 3 = some (3, 4) := by kernel_rfl
@[simp] theorem fieldO_38_3 : fieldO Try.prog 38 3 = some 3 := by kernel_rfl
@[simp] theorem placesT_38 : placesT Try.prog 38 = some [(0, 1), (1, 1), (2, 1), (3, 1)] := by kernel_rfl
@[simp] theorem arrT_38 : arrT Try.prog 38 = none := by kernel_rfl
@[simp] theorem eqK_38 : eqK Try.prog 38 = .struct [(2, 0), (3, 1), (3, 2), (4, 3)] := by kernel_rfl
@[simp] theorem eqG_38 : Program.eqGuardType Try.prog (Program.depth Try.prog) 38 = false := by kernel_rfl
@[simp] theorem concT_38 : concT Try.prog 38 = true := by kernel_rfl
@[simp] theorem nintT_38 : nintT Try.prog 38 = true := by kernel_rfl
@[simp] theorem szT_39 : szT Try.prog 39 = some 4 := by kernel_rfl
@[simp] theorem byT_39 : byT Try.prog 39 = some 32 := by kernel_rfl
@[simp] theorem aggT_39 : aggT Try.prog 39 = some true := by kernel_rfl
@[simp] theorem zeroT_39 : zeroT Try.prog 39 = some [.int .i64 0, .int .i64 0, .int .i64 0, .bool false] := by kernel_rfl
@[simp] theorem fieldsT_39_0 : fieldsT Try.prog 39 0 = some (0, 2) := by kernel_rfl
@[simp] theorem fieldO_39_0 : fieldO Try.prog 39 0 = some 0 := by kernel_rfl
@[simp] theorem fieldsT_39_1 : fieldsT Try.prog 39 1 = some (1, 3) := by kernel_rfl
@[simp] theorem fieldO_39_1 : fieldO Try.prog 39 1 = some 1 := by kernel_rfl
@[simp] theorem fieldsT_39_2 : fieldsT Try.prog 39 2 = some (2, 3) := by kernel_rfl
@[simp] theorem fieldO_39_2 : fieldO Try.prog 39 2 = some 2 := by kernel_rfl
@[simp] theorem fieldsT_39_3 : fieldsT Try.prog 39 3 = some (3, 4) := by kernel_rfl
@[simp] theorem fieldO_39_3 : fieldO Try.prog 39 3 = some 3 := by kernel_rfl
@[simp] theorem placesT_39 : placesT Try.prog 39 = some [(0, 1), (1, 1), (2, 1), (3, 1)] := by kernel_rfl
@[simp] theorem arrT_39 : arrT Try.prog 39 = none := by kernel_rfl
@[simp] theorem eqK_39 : eqK Try.prog 39 = .struct [(2, 0), (3, 1), (3, 2), (4, 3)] := by kernel_rfl
@[simp] theorem eqG_39 : Program.eqGuardType Try.prog (Program.depth Try.prog) 39 = false := by kernel_rfl
@[simp] theorem concT_39 : concT Try.prog 39 = true := by kernel_rfl
@[simp] theorem nintT_39 : nintT Try.prog 39 = true := by kernel_rfl
@[simp] theorem szT_40 : szT Try.prog 40 = some 1 := by kernel_rfl
@[simp] theorem byT_40 : byT Try.prog 40 = some 8 := by kernel_rfl
@[simp] theorem aggT_40 : aggT Try.prog 40 = some false := by kernel_rfl
@[simp] theorem zeroT_40 : zeroT Try.prog 40 = some [.nilFunc] := by kernel_rfl
@[simp] theorem eqK_40 : eqK Try.prog 40 = .func := by kernel_rfl
@[simp] theorem concT_40 : concT Try.prog 40 = true := by kernel_rfl
@[simp] theorem nintT_40 : nintT Try.prog 40 = true := by kernel_rfl
@[simp] theorem szT_41 : szT Try.prog 41 = some 1 := by kernel_rfl
@[simp] theorem byT_41 : byT Try.prog 41 = some 24 := by kernel_rfl
@[simp] theorem aggT_41 : aggT Try.prog 41 = some false := by kernel_rfl
@[simp] theorem zeroT_41 : zeroT Try.prog 41 = some [.nilslice] := by kernel_rfl
@[simp] theorem sliT_41 : sliT Try.prog 41 = some 5 := by kernel_rfl
@[simp] theorem lenK_41 : lenK Try.prog 41 = .slice := by kernel_rfl
@[simp] theorem eqK_41 : eqK Try.prog 41 = .slice := by kernel_rfl
@[simp] theorem arrT_41 : arrT Try.prog 41 = none := by kernel_rfl
@[simp] theorem concT_41 : concT Try.prog 41 = true := by kernel_rfl
@[simp] theorem nintT_41 : nintT Try.prog 41 = true := by kernel_rfl
@[simp] theorem szT_42 : szT Try.prog 42 = some 1 := by kernel_rfl
@[simp] theorem byT_42 : byT Try.prog 42 = some 8 := by kernel_rfl
@[simp] theorem aggT_42 : aggT Try.prog 42 = some false := by kernel_rfl
@[simp] theorem zeroT_42 : zeroT Try.prog 42 = some [.nilptr] := by kernel_rfl
@[simp] theorem eqK_42 : eqK Try.prog 42 = .pointer := by kernel_rfl
@[simp] theorem concT_42 : concT Try.prog 42 = true := by kernel_rfl
@[simp] theorem nintT_42 : nintT Try.prog 42 = true := by kernel_rfl
@[simp] theorem szT_43 : szT Try.prog 43 = some 1 := by kernel_rfl
@[simp] theorem byT_43 : byT Try.prog 43 = some 8 := by kernel_rfl
@[simp] theorem aggT_43 : aggT Try.prog 43 = some false := by kernel_rfl
@[simp] theorem zeroT_43 : zeroT Try.prog 43 = some [.nilFunc] := by kernel_rfl
@[simp] theorem eqK_43 : eqK Try.prog 43 = .func := by kernel_rfl
@[simp] theorem concT_43 : concT Try.prog 43 = true := by kernel_rfl
@[simp] theorem nintT_43 : nintT Try.prog 43 = true := by kernel_rfl
@[simp] theorem szT_44 : szT Try.prog 44 = some 1 := by kernel_rfl
@[simp] theorem byT_44 : byT Try.prog 44 = some 8 := by kernel_rfl
@[simp] theorem aggT_44 : aggT Try.prog 44 = some false := by kernel_rfl
@[simp] theorem zeroT_44 : zeroT Try.prog 44 = some [.nilFunc] := by kernel_rfl
@[simp] theorem eqK_44 : eqK Try.prog 44 = .func := by kernel_rfl
@[simp] theorem concT_44 : concT Try.prog 44 = true := by kernel_rfl
@[simp] theorem nintT_44 : nintT Try.prog 44 = true := by kernel_rfl
@[simp] theorem szT_45 : szT Try.prog 45 = some 1 := by kernel_rfl
@[simp] theorem byT_45 : byT Try.prog 45 = some 8 := by kernel_rfl
@[simp] theorem aggT_45 : aggT Try.prog 45 = some false := by kernel_rfl
@[simp] theorem zeroT_45 : zeroT Try.prog 45 = some [.nilFunc] := by kernel_rfl
@[simp] theorem eqK_45 : eqK Try.prog 45 = .func := by kernel_rfl
@[simp] theorem concT_45 : concT Try.prog 45 = true := by kernel_rfl
@[simp] theorem nintT_45 : nintT Try.prog 45 = true := by kernel_rfl
@[simp] theorem szT_46 : szT Try.prog 46 = some 1 := by kernel_rfl
@[simp] theorem byT_46 : byT Try.prog 46 = some 8 := by kernel_rfl
@[simp] theorem aggT_46 : aggT Try.prog 46 = some false := by kernel_rfl
@[simp] theorem zeroT_46 : zeroT Try.prog 46 = some [.nilFunc] := by kernel_rfl
@[simp] theorem eqK_46 : eqK Try.prog 46 = .func := by kernel_rfl
@[simp] theorem concT_46 : concT Try.prog 46 = true := by kernel_rfl
@[simp] theorem nintT_46 : nintT Try.prog 46 = true := by kernel_rfl
@[simp] theorem szT_47 : szT Try.prog 47 = some 1 := by kernel_rfl
@[simp] theorem byT_47 : byT Try.prog 47 = some 8 := by kernel_rfl
@[simp] theorem aggT_47 : aggT Try.prog 47 = some false := by kernel_rfl
@[simp] theorem zeroT_47 : zeroT Try.prog 47 = some [.nilmap] := by kernel_rfl
@[simp] theorem lenK_47 : lenK Try.prog 47 = .map := by kernel_rfl
@[simp] theorem eqK_47 : eqK Try.prog 47 = .map := by kernel_rfl
@[simp] theorem concT_47 : concT Try.prog 47 = true := by kernel_rfl
@[simp] theorem nintT_47 : nintT Try.prog 47 = true := by kernel_rfl
@[simp] theorem szT_48 : szT Try.prog 48 = some 0 := by kernel_rfl
@[simp] theorem byT_48 : byT Try.prog 48 = some 0 := by kernel_rfl
@[simp] theorem aggT_48 : aggT Try.prog 48 = some true := by kernel_rfl
@[simp] theorem zeroT_48 : zeroT Try.prog 48 = some [] := by kernel_rfl
@[simp] theorem placesT_48 : placesT Try.prog 48 = some [] := by kernel_rfl
@[simp] theorem arrT_48 : arrT Try.prog 48 = none := by kernel_rfl
@[simp] theorem eqK_48 : eqK Try.prog 48 = .struct [] := by kernel_rfl
@[simp] theorem eqG_48 : Program.eqGuardType Try.prog (Program.depth Try.prog) 48 = false := by kernel_rfl
@[simp] theorem concT_48 : concT Try.prog 48 = true := by kernel_rfl
@[simp] theorem nintT_48 : nintT Try.prog 48 = true := by kernel_rfl
@[simp] theorem szT_49 : szT Try.prog 49 = some 1 := by kernel_rfl
@[simp] theorem byT_49 : byT Try.prog 49 = some 8 := by kernel_rfl
@[simp] theorem aggT_49 : aggT Try.prog 49 = some false := by kernel_rfl
@[simp] theorem zeroT_49 : zeroT Try.prog 49 = some [.nilFunc] := by kernel_rfl
@[simp] theorem eqK_49 : eqK Try.prog 49 = .func := by kernel_rfl
@[simp] theorem concT_49 : concT Try.prog 49 = true := by kernel_rfl
@[simp] theorem nintT_49 : nintT Try.prog 49 = true := by kernel_rfl
@[simp] theorem szT_50 : szT Try.prog 50 = some 1 := by kernel_rfl
@[simp] theorem byT_50 : byT Try.prog 50 = some 8 := by kernel_rfl
@[simp] theorem aggT_50 : aggT Try.prog 50 = some false := by kernel_rfl
@[simp] theorem zeroT_50 : zeroT Try.prog 50 = some [.nilFunc] := by kernel_rfl
@[simp] theorem eqK_50 : eqK Try.prog 50 = .func := by kernel_rfl
@[simp] theorem concT_50 : concT Try.prog 50 = true := by kernel_rfl
@[simp] theorem nintT_50 : nintT Try.prog 50 = true := by kernel_rfl
@[simp] theorem szT_51 : szT Try.prog 51 = some 1 := by kernel_rfl
@[simp] theorem byT_51 : byT Try.prog 51 = some 8 := by kernel_rfl
@[simp] theorem aggT_51 : aggT Try.prog 51 = some false := by kernel_rfl
@[simp] theorem zeroT_51 : zeroT Try.prog 51 = some [.nilFunc] := by kernel_rfl
@[simp] theorem eqK_51 : eqK Try.prog 51 = .func := by kernel_rfl
@[simp] theorem concT_51 : concT Try.prog 51 = true := by kernel_rfl
@[simp] theorem nintT_51 : nintT Try.prog 51 = true := by kernel_rfl
@[simp] theorem szT_52 : szT Try.prog 52 = some 1 := by kernel_rfl
@[simp] theorem byT_52 : byT Try.prog 52 = some 8 := by kernel_rfl
@[simp] theorem aggT_52 : aggT Try.prog 52 = some false := by kernel_rfl
@[simp] theorem zeroT_52 : zeroT Try.prog 52 = some [.nilFunc] := by kernel_rfl
@[simp] theorem eqK_52 : eqK Try.prog 52 = .func := by kernel_rfl
@[simp] theorem concT_52 : concT Try.prog 52 = true := by kernel_rfl
@[simp] theorem nintT_52 : nintT Try.prog 52 = true := by kernel_rfl
@[simp] theorem szT_53 : szT Try.prog 53 = some 1 := by kernel_rfl
@[simp] theorem byT_53 : byT Try.prog 53 = some 8 := by kernel_rfl
@[simp] theorem aggT_53 : aggT Try.prog 53 = some false := by kernel_rfl
@[simp] theorem zeroT_53 : zeroT Try.prog 53 = some [.nilFunc] := by kernel_rfl
@[simp] theorem eqK_53 : eqK Try.prog 53 = .func := by kernel_rfl
@[simp] theorem concT_53 : concT Try.prog 53 = true := by kernel_rfl
@[simp] theorem nintT_53 : nintT Try.prog 53 = true := by kernel_rfl
@[simp] theorem szT_54 : szT Try.prog 54 = some 1 := by kernel_rfl
@[simp] theorem byT_54 : byT Try.prog 54 = some 8 := by kernel_rfl
@[simp] theorem aggT_54 : aggT Try.prog 54 = some false := by kernel_rfl
@[simp] theorem zeroT_54 : zeroT Try.prog 54 = some [.nilFunc] := by kernel_rfl
@[simp] theorem eqK_54 : eqK Try.prog 54 = .func := by kernel_rfl
@[simp] theorem concT_54 : concT Try.prog 54 = true := by kernel_rfl
@[simp] theorem nintT_54 : nintT Try.prog 54 = true := by kernel_rfl
@[simp] theorem szT_55 : szT Try.prog 55 = some 1 := by kernel_rfl
@[simp] theorem byT_55 : byT Try.prog 55 = some 8 := by kernel_rfl
@[simp] theorem aggT_55 : aggT Try.prog 55 = some false := by kernel_rfl
@[simp] theorem zeroT_55 : zeroT Try.prog 55 = some [.nilFunc] := by kernel_rfl
@[simp] theorem eqK_55 : eqK Try.prog 55 = .func := by kernel_rfl
@[simp] theorem concT_55 : concT Try.prog 55 = true := by kernel_rfl
@[simp] theorem nintT_55 : nintT Try.prog 55 = true := by kernel_rfl
@[simp] theorem szT_56 : szT Try.prog 56 = some 3 := by kernel_rfl
@[simp] theorem byT_56 : byT Try.prog 56 = some 40 := by kernel_rfl
@[simp] theorem aggT_56 : aggT Try.prog 56 = some true := by kernel_rfl
@[simp] theorem zeroT_56 : zeroT Try.prog 56 = some [.nilslice, .int .i64 0, .bool false] := by kernel_rfl
@[simp] theorem fieldsT_56_0 : fieldsT Try.prog 56 0 = some (0, 41) := by kernel_rfl
@[simp] theorem fieldO_56_0 : fieldO Try.prog 56 0 = some 0 := by kernel_rfl
@[simp] theorem fieldsT_56_1 : fieldsT Try.prog 56 1 = some (1, 25) := by kernel_rfl
@[simp] theorem fieldO_56_1 : fieldO Try.prog 56 1 = some 1 := by kernel_rfl
@[simp] theorem fieldsT_56_2 : fieldsT Try.prog 56 2 = some (2, 4) := by kernel_rfl
@[simp] theorem fieldO_56_2 : fieldO Try.prog 56 2 = some 2 := by kernel_rfl
@[simp] theorem placesT_56 : placesT Try.prog 56 = some [(0, 1), (1, 1), (2, 1)] := by kernel_rfl
@[simp] theorem arrT_56 : arrT Try.prog 56 = none := by kernel_rfl
@[simp] theorem eqK_56 : eqK Try.prog 56 = .struct [(41, 0), (25, 1), (4, 2)] := by kernel_rfl
@[simp] theorem eqG_56 : Program.eqGuardType Try.prog (Program.depth Try.prog) 56 = false := by kernel_rfl
@[simp] theorem concT_56 : concT Try.prog 56 = true := by kernel_rfl
@[simp] theorem nintT_56 : nintT Try.prog 56 = true := by kernel_rfl
@[simp] theorem szT_57 : szT Try.prog 57 = some 3 := by kernel_rfl
@[simp] theorem byT_57 : byT Try.prog 57 = some 40 := by kernel_rfl
@[simp] theorem aggT_57 : aggT Try.prog 57 = some true := by kernel_rfl
@[simp] theorem zeroT_57 : zeroT Try.prog 57 = some [.nilslice, .int .i64 0, .bool false] := by kernel_rfl
@[simp] theorem fieldsT_57_0 : fieldsT Try.prog 57 0 = some (0, 41) := by kernel_rfl
@[simp] theorem fieldO_57_0 : fieldO Try.prog 57 0 = some 0 := by kernel_rfl
@[simp] theorem fieldsT_57_1 : fieldsT Try.prog 57 1 = some (1, 25) := by kernel_rfl
@[simp] theorem fieldO_57_1 : fieldO Try.prog 57 1 = some 1 := by kernel_rfl
@[simp] theorem fieldsT_57_2 : fieldsT Try.prog 57 2 = some (2, 4) := by kernel_rfl
@[simp] theorem fieldO_57_2 : fieldO Try.prog 57 2 = some 2 := by kernel_rfl
@[simp] theorem placesT_57 : placesT Try.prog 57 = some [(0, 1), (1, 1), (2, 1)] := by kernel_rfl
@[simp] theorem arrT_57 : arrT Try.prog 57 = none := by kernel_rfl
@[simp] theorem eqK_57 : eqK Try.prog 57 = .struct [(41, 0), (25, 1), (4, 2)] := by kernel_rfl
@[simp] theorem eqG_57 : Program.eqGuardType Try.prog (Program.depth Try.prog) 57 = false := by kernel_rfl
@[simp] theorem concT_57 : concT Try.prog 57 = true := by kernel_rfl
@[simp] theorem nintT_57 : nintT Try.prog 57 = true := by kernel_rfl
@[simp] theorem szT_58 : szT Try.prog 58 = some 1 := by kernel_rfl
@[simp] theorem byT_58 : byT Try.prog 58 = some 8 := by kernel_rfl
@[simp] theorem aggT_58 : aggT Try.prog 58 = some false := by kernel_rfl
@[simp] theorem zeroT_58 : zeroT Try.prog 58 = some [.int .u64 0] := by kernel_rfl
@[simp] theorem eqK_58 : eqK Try.prog 58 = .int := by kernel_rfl
@[simp] theorem concT_58 : concT Try.prog 58 = true := by kernel_rfl
@[simp] theorem szT_59 : szT Try.prog 59 = some 1 := by kernel_rfl
@[simp] theorem byT_59 : byT Try.prog 59 = some 8 := by kernel_rfl
@[simp] theorem aggT_59 : aggT Try.prog 59 = some false := by kernel_rfl
@[simp] theorem zeroT_59 : zeroT Try.prog 59 = some [.nilFunc] := by kernel_rfl
@[simp] theorem eqK_59 : eqK Try.prog 59 = .func := by kernel_rfl
@[simp] theorem concT_59 : concT Try.prog 59 = true := by kernel_rfl
@[simp] theorem nintT_59 : nintT Try.prog 59 = true := by kernel_rfl
@[simp] theorem szT_60 : szT Try.prog 60 = some 1 := by kernel_rfl
@[simp] theorem byT_60 : byT Try.prog 60 = some 8 := by kernel_rfl
@[simp] theorem aggT_60 : aggT Try.prog 60 = some false := by kernel_rfl
@[simp] theorem zeroT_60 : zeroT Try.prog 60 = some [.nilFunc] := by kernel_rfl
@[simp] theorem eqK_60 : eqK Try.prog 60 = .func := by kernel_rfl
@[simp] theorem concT_60 : concT Try.prog 60 = true := by kernel_rfl
@[simp] theorem nintT_60 : nintT Try.prog 60 = true := by kernel_rfl
@[simp] theorem szT_61 : szT Try.prog 61 = some 1 := by kernel_rfl
@[simp] theorem byT_61 : byT Try.prog 61 = some 8 := by kernel_rfl
@[simp] theorem aggT_61 : aggT Try.prog 61 = some false := by kernel_rfl
@[simp] theorem zeroT_61 : zeroT Try.prog 61 = some [.nilFunc] := by kernel_rfl
@[simp] theorem eqK_61 : eqK Try.prog 61 = .func := by kernel_rfl
@[simp] theorem concT_61 : concT Try.prog 61 = true := by kernel_rfl
@[simp] theorem nintT_61 : nintT Try.prog 61 = true := by kernel_rfl
@[simp] theorem szT_62 : szT Try.prog 62 = some 1 := by kernel_rfl
@[simp] theorem byT_62 : byT Try.prog 62 = some 8 := by kernel_rfl
@[simp] theorem aggT_62 : aggT Try.prog 62 = some false := by kernel_rfl
@[simp] theorem zeroT_62 : zeroT Try.prog 62 = some [.nilFunc] := by kernel_rfl
@[simp] theorem eqK_62 : eqK Try.prog 62 = .func := by kernel_rfl
@[simp] theorem concT_62 : concT Try.prog 62 = true := by kernel_rfl
@[simp] theorem nintT_62 : nintT Try.prog 62 = true := by kernel_rfl
@[simp] theorem szT_63 : szT Try.prog 63 = some 1 := by kernel_rfl
@[simp] theorem byT_63 : byT Try.prog 63 = some 8 := by kernel_rfl
@[simp] theorem aggT_63 : aggT Try.prog 63 = some false := by kernel_rfl
@[simp] theorem zeroT_63 : zeroT Try.prog 63 = some [.int .u64 0] := by kernel_rfl
@[simp] theorem eqK_63 : eqK Try.prog 63 = .int := by kernel_rfl
@[simp] theorem concT_63 : concT Try.prog 63 = true := by kernel_rfl
@[simp] theorem szT_64 : szT Try.prog 64 = some 1 := by kernel_rfl
@[simp] theorem byT_64 : byT Try.prog 64 = some 8 := by kernel_rfl
@[simp] theorem aggT_64 : aggT Try.prog 64 = some false := by kernel_rfl
@[simp] theorem zeroT_64 : zeroT Try.prog 64 = some [.nilFunc] := by kernel_rfl
@[simp] theorem eqK_64 : eqK Try.prog 64 = .func := by kernel_rfl
@[simp] theorem concT_64 : concT Try.prog 64 = true := by kernel_rfl
@[simp] theorem nintT_64 : nintT Try.prog 64 = true := by kernel_rfl
@[simp] theorem szT_65 : szT Try.prog 65 = some 1 := by kernel_rfl
@[simp] theorem byT_65 : byT Try.prog 65 = some 8 := by kernel_rfl
@[simp] theorem aggT_65 : aggT Try.prog 65 = some false := by kernel_rfl
@[simp] theorem zeroT_65 : zeroT Try.prog 65 = some [.nilFunc] := by kernel_rfl
@[simp] theorem eqK_65 : eqK Try.prog 65 = .func := by kernel_rfl
@[simp] theorem concT_65 : concT Try.prog 65 = true := by kernel_rfl
@[simp] theorem nintT_65 : nintT Try.prog 65 = true := by kernel_rfl
@[simp] theorem szT_66 : szT Try.prog 66 = some 1 := by kernel_rfl
@[simp] theorem byT_66 : byT Try.prog 66 = some 8 := by kernel_rfl
@[simp] theorem aggT_66 : aggT Try.prog 66 = some false := by kernel_rfl
@[simp] theorem zeroT_66 : zeroT Try.prog 66 = some [.nilFunc] := by kernel_rfl
@[simp] theorem eqK_66 : eqK Try.prog 66 = .func := by kernel_rfl
@[simp] theorem concT_66 : concT Try.prog 66 = true := by kernel_rfl
@[simp] theorem nintT_66 : nintT Try.prog 66 = true := by kernel_rfl
@[simp] theorem szT_67 : szT Try.prog 67 = some 1 := by kernel_rfl
@[simp] theorem byT_67 : byT Try.prog 67 = some 8 := by kernel_rfl
@[simp] theorem aggT_67 : aggT Try.prog 67 = some false := by kernel_rfl
@[simp] theorem zeroT_67 : zeroT Try.prog 67 = some [.nilFunc] := by kernel_rfl
@[simp] theorem eqK_67 : eqK Try.prog 67 = .func := by kernel_rfl
@[simp] theorem concT_67 : concT Try.prog 67 = true := by kernel_rfl
@[simp] theorem nintT_67 : nintT Try.prog 67 = true := by kernel_rfl
@[simp] theorem szT_68 : szT Try.prog 68 = some 1 := by kernel_rfl
@[simp] theorem byT_68 : byT Try.prog 68 = some 8 := by kernel_rfl
@[simp] theorem aggT_68 : aggT Try.prog 68 = some false := by kernel_rfl
@[simp] theorem zeroT_68 : zeroT Try.prog 68 = some [.int .i64 0] := by kernel_rfl
@[simp] theorem eqK_68 : eqK Try.prog 68 = .int := by kernel_rfl
@[simp] theorem concT_68 : concT Try.prog 68 = true := by kernel_rfl
@[simp] theorem szT_70 : szT Try.prog 70 = some 1 := by kernel_rfl
@[simp] theorem byT_70 : byT Try.prog 70 = some 8 := by kernel_rfl
@[simp] theorem aggT_70 : aggT Try.prog 70 = some false := by kernel_rfl
@[simp] theorem zeroT_70 : zeroT Try.prog 70 = some [.nilFunc] := by kernel_rfl
@[simp] theorem eqK_70 : eqK Try.prog 70 = .func := by kernel_rfl
@[simp] theorem concT_70 : concT Try.prog 70 = true := by kernel_rfl
@[simp] theorem nintT_70 : nintT Try.prog 70 = true := by kernel_rfl
@[simp] theorem szT_71 : szT Try.prog 71 = some 1 := by kernel_rfl
@[simp] theorem byT_71 : byT Try.prog 71 = some 8 := by kernel_rfl
@[simp] theorem aggT_71 : aggT Try.prog 71 = some false := by kernel_rfl
@[simp] theorem zeroT_71 : zeroT Try.prog 71 = some [.nilFunc] := by kernel_rfl
@[simp] theorem eqK_71 : eqK Try.prog 71 = .func := by kernel_rfl
@[simp] theorem concT_71 : concT Try.prog 71 = true := by kernel_rfl
@[simp] theorem nintT_71 : nintT Try.prog 71 = true := by kernel_rfl
@[simp] theorem szT_72 : szT Try.prog 72 = some 1 := by kernel_rfl
@[simp] theorem byT_72 : byT Try.prog 72 = some 8 := by kernel_rfl
@[simp] theorem aggT_72 : aggT Try.prog 72 = some false := by kernel_rfl
@[simp] theorem zeroT_72 : zeroT Try.prog 72 = some [.nilFunc] := by kernel_rfl
@[simp] theorem eqK_72 : eqK Try.prog 72 = .func := by kernel_rfl
@[simp] theorem concT_72 : concT Try.prog 72 = true := by kernel_rfl
@[simp] theorem nintT_72 : nintT Try.prog 72 = true := by kernel_rfl
@[simp] theorem szT_73 : szT Try.prog 73 = some 1 := by kernel_rfl
@[simp] theorem byT_73 : byT Try.prog 73 = some 8 := by kernel_rfl
@[simp] theorem aggT_73 : aggT Try.prog 73 = some false := by kernel_rfl
@[simp] theorem zeroT_73 : zeroT Try.prog 73 = some [.nilFunc] := by kernel_rfl
@[simp] theorem eqK_73 : eqK Try.prog 73 = .func := by kernel_rfl
@[simp] theorem concT_73 : concT Try.prog 73 = true := by kernel_rfl
@[simp] theorem nintT_73 : nintT Try.prog 73 = true := by kernel_rfl
@[simp] theorem szT_75 : szT Try.prog 75 = some 1 := by kernel_rfl
@[simp] theorem byT_75 : byT Try.prog 75 = some 8 := by kernel_rfl
@[simp] theorem aggT_75 : aggT Try.prog 75 = some false := by kernel_rfl
@[simp] theorem zeroT_75 : zeroT Try.prog 75 = some [.nilFunc] := by kernel_rfl
@[simp] theorem eqK_75 : eqK Try.prog 75 = .func := by kernel_rfl
@[simp] theorem concT_75 : concT Try.prog 75 = true := by kernel_rfl
@[simp] theorem nintT_75 : nintT Try.prog 75 = true := by kernel_rfl
@[simp] theorem szT_76 : szT Try.prog 76 = some 1 := by kernel_rfl
@[simp] theorem byT_76 : byT Try.prog 76 = some 8 := by kernel_rfl
@[simp] theorem aggT_76 : aggT Try.prog 76 = some false := by kernel_rfl
@[simp] theorem zeroT_76 : zeroT Try.prog 76 = some [.nilFunc] := by kernel_rfl
@[simp] theorem eqK_76 : eqK Try.prog 76 = .func := by kernel_rfl
@[simp] theorem concT_76 : concT Try.prog 76 = true := by kernel_rfl
@[simp] theorem nintT_76 : nintT Try.prog 76 = true := by kernel_rfl
@[simp] theorem szT_77 : szT Try.prog 77 = some 1 := by kernel_rfl
@[simp] theorem byT_77 : byT Try.prog 77 = some 4 := by kernel_rfl
@[simp] theorem aggT_77 : aggT Try.prog 77 = some false := by kernel_rfl
@[simp] theorem zeroT_77 : zeroT Try.prog 77 = some [.int .u32 0] := by kernel_rfl
@[simp] theorem eqK_77 : eqK Try.prog 77 = .int := by kernel_rfl
@[simp] theorem concT_77 : concT Try.prog 77 = true := by kernel_rfl
@[simp] theorem szT_78 : szT Try.prog 78 = some 1 := by kernel_rfl
@[simp] theorem byT_78 : byT Try.prog 78 = some 8 := by kernel_rfl
@[simp] theorem aggT_78 : aggT Try.prog 78 = some false := by kernel_rfl
@[simp] theorem zeroT_78 : zeroT Try.prog 78 = some [.nilFunc] := by kernel_rfl
@[simp] theorem eqK_78 : eqK Try.prog 78 = .func := by kernel_rfl
@[simp] theorem concT_78 : concT Try.prog 78 = true := by kernel_rfl
@[simp] theorem nintT_78 : nintT Try.prog 78 = true := by kernel_rfl
@[simp] theorem szT_79 : szT Try.prog 79 = some 1 := by kernel_rfl
@[simp] theorem byT_79 : byT Try.prog 79 = some 8 := by kernel_rfl
@[simp] theorem aggT_79 : aggT Try.prog 79 = some false := by kernel_rfl
@[simp] theorem zeroT_79 : zeroT Try.prog 79 = some [.int .u64 0] := by kernel_rfl
@[simp] theorem eqK_79 : eqK Try.prog 79 = .int := by kernel_rfl
@[simp] theorem concT_79 : concT Try.prog 79 = true := by kernel_rfl
@[simp] theorem szT_80 : szT Try.prog 80 = some 1 := by kernel_rfl
@[simp] theorem byT_80 : byT Try.prog 80 = some 8 := by kernel_rfl
@[simp] theorem aggT_80 : aggT Try.prog 80 = some false := by kernel_rfl
@[simp] theorem zeroT_80 : zeroT Try.prog 80 = some [.nilFunc] := by kernel_rfl
@[simp] theorem eqK_80 : eqK Try.prog 80 = .func := by kernel_rfl
@[simp] theorem concT_80 : concT Try.prog 80 = true := by kernel_rfl
@[simp] theorem nintT_80 : nintT Try.prog 80 = true := by kernel_rfl
@[simp] theorem szT_81 : szT Try.prog 81 = some 1 := by kernel_rfl
@[simp] theorem byT_81 : byT Try.prog 81 = some 8 := by kernel_rfl
@[simp] theorem aggT_81 : aggT Try.prog 81 = some false := by kernel_rfl
@[simp] theorem zeroT_81 : zeroT Try.prog 81 = some [.nilFunc] := by kernel_rfl
@[simp] theorem eqK_81 : eqK Try.prog 81 = .func := by kernel_rfl
@[simp] theorem concT_81 : concT Try.prog 81 = true := by kernel_rfl
@[simp] theorem nintT_81 : nintT Try.prog 81 = true := by kernel_rfl
@[simp] theorem szT_82 : szT Try.prog 82 = some 1 := by kernel_rfl
@[simp] theorem byT_82 : byT Try.prog 82 = some 8 := by kernel_rfl
@[simp] theorem aggT_82 : aggT Try.prog 82 = some false := by kernel_rfl
@[simp] theorem zeroT_82 : zeroT Try.prog 82 = some [.nilptr] := by kernel_rfl
@[simp] theorem eqK_82 : eqK Try.prog 82 = .pointer := by kernel_rfl
@[simp] theorem concT_82 : concT Try.prog 82 = true := by kernel_rfl
@[simp] theorem nintT_82 : nintT Try.prog 82 = true := by kernel_rfl
@[simp] theorem szT_83 : szT Try.prog 83 = some 1 := by kernel_rfl
@[simp] theorem byT_83 : byT Try.prog 83 = some 8 := by kernel_rfl
@[simp] theorem aggT_83 : aggT Try.prog 83 = some false := by kernel_rfl
@[simp] theorem zeroT_83 : zeroT Try.prog 83 = some [.nilFunc] := by kernel_rfl
@[simp] theorem eqK_83 : eqK Try.prog 83 = .func := by kernel_rfl
@[simp] theorem concT_83 : concT Try.prog 83 = true := by kernel_rfl
@[simp] theorem nintT_83 : nintT Try.prog 83 = true := by kernel_rfl
@[simp] theorem szT_84 : szT Try.prog 84 = some 1 := by kernel_rfl
@[simp] theorem byT_84 : byT Try.prog 84 = some 8 := by kernel_rfl
@[simp] theorem aggT_84 : aggT Try.prog 84 = some false := by kernel_rfl
@[simp] theorem zeroT_84 : zeroT Try.prog 84 = some [.nilptr] := by kernel_rfl
@[simp] theorem eqK_84 : eqK Try.prog 84 = .pointer := by kernel_rfl
@[simp] theorem concT_84 : concT Try.prog 84 = true := by kernel_rfl
@[simp] theorem nintT_84 : nintT Try.prog 84 = true := by kernel_rfl
@[simp] theorem szT_86 : szT Try.prog 86 = some 1 := by kernel_rfl
@[simp] theorem byT_86 : byT Try.prog 86 = some 8 := by kernel_rfl
@[simp] theorem aggT_86 : aggT Try.prog 86 = some false := by kernel_rfl
@[simp] theorem zeroT_86 : zeroT Try.prog 86 = some [.nilFunc] := by kernel_rfl
@[simp] theorem eqK_86 : eqK Try.prog 86 = .func := by kernel_rfl
@[simp] theorem concT_86 : concT Try.prog 86 = true := by kernel_rfl
@[simp] theorem nintT_86 : nintT Try.prog 86 = true := by kernel_rfl
@[simp] theorem szT_87 : szT Try.prog 87 = some 1 := by kernel_rfl
@[simp] theorem byT_87 : byT Try.prog 87 = some 8 := by kernel_rfl
@[simp] theorem aggT_87 : aggT Try.prog 87 = some false := by kernel_rfl
@[simp] theorem zeroT_87 : zeroT Try.prog 87 = some [.nilFunc] := by kernel_rfl
@[simp] theorem eqK_87 : eqK Try.prog 87 = .func := by kernel_rfl
@[simp] theorem concT_87 : concT Try.prog 87 = true := by kernel_rfl
@[simp] theorem nintT_87 : nintT Try.prog 87 = true := by kernel_rfl
@[simp] theorem szT_88 : szT Try.prog 88 = some 4 := by kernel_rfl
@[simp] theorem byT_88 : byT Try.prog 88 = some 40 := by kernel_rfl
@[simp] theorem aggT_88 : aggT Try.prog 88 = some true := by kernel_rfl
@[simp] theorem zeroT_88 : zeroT Try.prog 88 = some [.nilptr, .nilptr, .nilptr, .str ⟨#[]⟩] := by kernel_rfl
@[simp] theorem fieldsT_88_0 : fieldsT Try.prog 88 0 = some (0, 17) := by kernel_rfl
@[simp] theorem fieldO_88_0 : fieldO Try.prog 88 0 = some 0 := by kernel_rfl
@[simp] theorem fieldsT_88_1 : fieldsT Try.prog 88 1 = some (1, 17) := by kernel_rfl
@[simp] theorem fieldO_88_1 : fieldO Try.prog 88 1 = some 1 := by kernel_rfl
@[simp] theorem fieldsT_88_2 : fieldsT Try.prog 88 2 = some (2, 17) := by kernel_rfl
@[simp] theorem fieldO_88_2 : fieldO Try.prog 88 2 = some 2 := by kernel_rfl
@[simp] theorem fieldsT_88_3 : fieldsT Try.prog 88 3 = some (3, 9) := by kernel_rfl
@[simp] theorem fieldO_88_3 : fieldO Try.prog 88 3 = some 3 := by kernel_rfl
@[simp] theorem placesT_88 : placesT Try.prog 88 = some [(0, 1), (1, 1), (2, 1), (3, 1)] := by kernel_rfl
@[simp] theorem arrT_88 : arrT Try.prog 88 = none := by kernel_rfl
@[simp] theorem eqG_88 : Program.eqGuardType Try.prog (Program.depth Try.prog) 88 = false := by kernel_rfl
@[simp] theorem concT_88 : concT Try.prog 88 = true := by kernel_rfl
@[simp] theorem nintT_88 : nintT Try.prog 88 = true := by kernel_rfl
@[simp] theorem szT_90 : szT Try.prog 90 = some 0 := by kernel_rfl
@[simp] theorem byT_90 : byT Try.prog 90 = some 0 := by kernel_rfl
@[simp] theorem aggT_90 : aggT Try.prog 90 = some true := by kernel_rfl
@[simp] theorem zeroT_90 : zeroT Try.prog 90 = some [] := by kernel_rfl
@[simp] theorem arrT_90 : arrT Try.prog 90 = some (0, 16) := by kernel_rfl
@[simp] theorem eqK_90 : eqK Try.prog 90 = .array 0 16 1 := by kernel_rfl
@[simp] theorem lenK_90 : lenK Try.prog 90 = .arr 0 := by kernel_rfl
@[simp] theorem eqG_90 : Program.eqGuardType Try.prog (Program.depth Try.prog) 90 = false := by kernel_rfl
@[simp] theorem concT_90 : concT Try.prog 90 = true := by kernel_rfl
@[simp] theorem nintT_90 : nintT Try.prog 90 = true := by kernel_rfl
@[simp] theorem szT_91 : szT Try.prog 91 = some 0 := by kernel_rfl
@[simp] theorem byT_91 : byT Try.prog 91 = some 0 := by kernel_rfl
@[simp] theorem aggT_91 : aggT Try.prog 91 = some true := by kernel_rfl
@[simp] theorem zeroT_91 : zeroT Try.prog 91 = some [] := by kernel_rfl
@[simp] theorem fieldsT_91_0 : fieldsT Try.prog 91 0 = some (0, 90) := by kernel_rfl
@[simp] theorem placesT_91 : placesT Try.prog 91 = some [(0, 0)] := by kernel_rfl
@[simp] theorem arrT_91 : arrT Try.prog 91 = none := by kernel_rfl
@[simp] theorem eqG_91 : Program.eqGuardType Try.prog (Program.depth Try.prog) 91 = false := by kernel_rfl
@[simp] theorem concT_91 : concT Try.prog 91 = true := by kernel_rfl
@[simp] theorem nintT_91 : nintT Try.prog 91 = true := by kernel_rfl
@[simp] theorem szT_93 : szT Try.prog 93 = some 1 := by kernel_rfl
@[simp] theorem byT_93 : byT Try.prog 93 = some 8 := by kernel_rfl
@[simp] theorem aggT_93 : aggT Try.prog 93 = some false := by kernel_rfl
@[simp] theorem zeroT_93 : zeroT Try.prog 93 = some [.nilFunc] := by kernel_rfl
@[simp] theorem eqK_93 : eqK Try.prog 93 = .func := by kernel_rfl
@[simp] theorem concT_93 : concT Try.prog 93 = true := by kernel_rfl
@[simp] theorem nintT_93 : nintT Try.prog 93 = true := by kernel_rfl
@[simp] theorem szT_96 : szT Try.prog 96 = some 1 := by kernel_rfl
@[simp] theorem byT_96 : byT Try.prog 96 = some 8 := by kernel_rfl
@[simp] theorem aggT_96 : aggT Try.prog 96 = some false := by kernel_rfl
@[simp] theorem zeroT_96 : zeroT Try.prog 96 = some [.nilFunc] := by kernel_rfl
@[simp] theorem eqK_96 : eqK Try.prog 96 = .func := by kernel_rfl
@[simp] theorem concT_96 : concT Try.prog 96 = true := by kernel_rfl
@[simp] theorem nintT_96 : nintT Try.prog 96 = true := by kernel_rfl
@[simp] theorem szT_97 : szT Try.prog 97 = some 1 := by kernel_rfl
@[simp] theorem byT_97 : byT Try.prog 97 = some 8 := by kernel_rfl
@[simp] theorem aggT_97 : aggT Try.prog 97 = some false := by kernel_rfl
@[simp] theorem zeroT_97 : zeroT Try.prog 97 = some [.nilptr] := by kernel_rfl
@[simp] theorem eqK_97 : eqK Try.prog 97 = .pointer := by kernel_rfl
@[simp] theorem concT_97 : concT Try.prog 97 = true := by kernel_rfl
@[simp] theorem nintT_97 : nintT Try.prog 97 = true := by kernel_rfl
@[simp] theorem szT_100 : szT Try.prog 100 = some 11 := by kernel_rfl
@[simp] theorem byT_100 : byT Try.prog 100 = some 48 := by kernel_rfl
@[simp] theorem aggT_100 : aggT Try.prog 100 = some true := by kernel_rfl
@[simp] theorem zeroT_100 : zeroT Try.prog 100 = some [.int .u64 0, .int .u64 0, .int .u32 0, .int .u8 0, .int .u8 0, .int .u8 0, .int .u8 0, .nilFunc, .nilptr, .int .i32 0, .int .i32 0] := by kernel_rfl
@[simp] theorem fieldsT_100_0 : fieldsT Try.prog 100 0 = some (0, 12) := by kernel_rfl
@[simp] theorem fieldO_100_0 : fieldO Try.prog 100 0 = some 0 := by kernel_rfl
@[simp] theorem fieldsT_100_1 : fieldsT Try.prog 100 1 = some (1, 12) := by kernel_rfl
@[simp] theorem fieldO_100_1 : fieldO Try.prog 100 1 = some 1 := by kernel_rfl
@[simp] theorem fieldsT_100_2 : fieldsT Try.prog 100 2 = some (2, 77) := by kernel_rfl
@[simp] theorem fieldO_100_2 : fieldO Try.prog 100 2 = some 2 := by kernel_rfl
@[simp] theorem fieldsT_100_3 : fieldsT Try.prog 100 3 = some (3, 94) := by kernel_rfl
@[simp] theorem fieldO_100_3 : fieldO Try.prog 100 3 = some 3 := by kernel_rfl
@[simp] theorem fieldsT_100_4 : fieldsT Try.prog 100 4 = some (4, 5) := by kernel_rfl
@[simp] theorem fieldO_100_4 : fieldO Try.prog 100 4 = some 4 := by kernel_rfl
@[simp] theorem fieldsT_100_5 : fieldsT Try.prog 100 5 = some (5, 5) := by kernel_rfl
@[simp] theorem fieldO_100_5 : fieldO Try.prog 100 5 = some 5 := by kernel_rfl
@[simp] theorem fieldsT_100_6 : fieldsT Try.prog 100 6 = some (6, 95) := by kernel_rfl
@[simp] theorem fieldO_100_6 : fieldO Try.prog 100 6 = some 6 := by kernel_rfl
@[simp] theorem fieldsT_100_7 : fieldsT Try.prog 100 7 = some (7, 96) := by kernel_rfl
@[simp] theorem fieldO_100_7 : fieldO Try.prog 100 7 = some 7 := by kernel_rfl
@[simp] theorem fieldsT_100_8 : fieldsT Try.prog 100 8 = some (8, 97) := by kernel_rfl
@[simp] theorem fieldO_100_8 : fieldO Try.prog 100 8 = some 8 := by kernel_rfl
@[simp] theorem fieldsT_100_9 : fieldsT Try.prog 100 9 = some (9, 98) := by kernel_rfl
@[simp] theorem fieldO_100_9 : fieldO Try.prog 100 9 = some 9 := by kernel_rfl
@[simp] theorem fieldsT_100_10 : fieldsT Try.prog 100 10 = some (10, 99) := by kernel_rfl
@[simp] theorem fieldO_100_10 : fieldO Try.prog 100 10 = some 10 := by kernel_rfl
@[simp] theorem placesT_100 : placesT Try.prog 100 = some [(0, 1), (1, 1), (2, 1), (3, 1), (4, 1), (5, 1), (6, 1), (7, 1), (8, 1), (9, 1), (10, 1)] := by kernel_rfl
@[simp] theorem arrT_100 : arrT Try.prog 100 = none := by kernel_rfl
@[simp] theorem eqG_100 : Program.eqGuardType Try.prog (Program.depth Try.prog) 100 = false := by kernel_rfl
@[simp] theorem concT_100 : concT Try.prog 100 = true := by kernel_rfl
@[simp] theorem nintT_100 : nintT Try.prog 100 = true := by kernel_rfl
@[simp] theorem szT_102 : szT Try.prog 102 = some 1 := by kernel_rfl
@[simp] theorem byT_102 : byT Try.prog 102 = some 8 := by kernel_rfl
@[simp] theorem aggT_102 : aggT Try.prog 102 = some false := by kernel_rfl
@[simp] theorem zeroT_102 : zeroT Try.prog 102 = some [.nilptr] := by kernel_rfl
@[simp] theorem concT_102 : concT Try.prog 102 = true := by kernel_rfl
@[simp] theorem nintT_102 : nintT Try.prog 102 = true := by kernel_rfl
@[simp] theorem cvK_3_58 : cvK Try.prog 3 58 = .int .u64 := by kernel_rfl
@[simp] theorem cvK_3_63 : cvK Try.prog 3 63 = .int .u64 := by kernel_rfl
@[simp] theorem cvK_3_79 : cvK Try.prog 3 79 = .int .u64 := by kernel_rfl
@[simp] theorem cvK_5_3 : cvK Try.prog 5 3 = .int .i64 := by kernel_rfl
@[simp] theorem cvK_5_58 : cvK Try.prog 5 58 = .int .u64 := by kernel_rfl
@[simp] theorem cvK_58_3 : cvK Try.prog 58 3 = .int .i64 := by kernel_rfl
@[simp] theorem cvK_58_5 : cvK Try.prog 58 5 = .int .u8 := by kernel_rfl
@[simp] theorem cvK_63_3 : cvK Try.prog 63 3 = .int .i64 := by kernel_rfl
@[simp] theorem cvK_63_77 : cvK Try.prog 63 77 = .int .u32 := by kernel_rfl
@[simp] theorem cvK_77_5 : cvK Try.prog 77 5 = .int .u8 := by kernel_rfl
@[simp] theorem callT_3 : callT Try.prog 3 = true := by kernel_rfl
@[simp] theorem callT_4 : callT Try.prog 4 = true := by kernel_rfl
@[simp] theorem callT_5 : callT Try.prog 5 = true := by kernel_rfl
@[simp] theorem callT_6 : callT Try.prog 6 = true := by kernel_rfl
@[simp] theorem callT_7 : callT Try.prog 7 = true := by kernel_rfl
@[simp] theorem callT_8 : callT Try.prog 8 = true := by kernel_rfl
@[simp] theorem callT_9 : callT Try.prog 9 = true := by kernel_rfl
@[simp] theorem callT_10 : callT Try.prog 10 = true := by kernel_rfl
@[simp] theorem callT_11 : callT Try.prog 11 = true := by kernel_rfl
@[simp] theorem callT_12 : callT Try.prog 12 = true := by kernel_rfl
@[simp] theorem callT_13 : callT Try.prog 13 = true := by kernel_rfl
@[simp] theorem callT_14 : callT Try.prog 14 = true := by kernel_rfl
@[simp] theorem callT_15 : callT Try.prog 15 = true := by kernel_rfl
@[simp] theorem callT_16 : callT Try.prog 16 = true := by kernel_rfl
@[simp] theorem callT_17 : callT Try.prog 17 = true := by kernel_rfl
@[simp] theorem callT_18 : callT Try.prog 18 = true := by kernel_rfl
@[simp] theorem callT_19 : callT Try.prog 19 = true := by kernel_rfl
@[simp] theorem callT_20 : callT Try.prog 20 = true := by kernel_rfl
@[simp] theorem callT_21 : callT Try.prog 21 = true := by kernel_rfl
@[simp] theorem callT_22 : callT Try.prog 22 = true := by kernel_rfl
@[simp] theorem callT_23 : callT Try.prog 23 = true := by kernel_rfl
@[simp] theorem callT_24 : callT Try.prog 24 = true := by kernel_rfl
@[simp] theorem callT_25 : callT Try.prog 25 = true := by kernel_rfl
@[simp] theorem callT_26 : callT Try.prog 26 = true := by kernel_rfl
@[simp] theorem callT_27 : callT Try.prog 27 = true := by kernel_rfl
@[simp] theorem callT_28 : callT Try.prog 28 = true := by kernel_rfl
@[simp] theorem callT_29 : callT Try.prog 29 = true := by kernel_rfl
@[simp] theorem callT_30 : callT Try.prog 30 = true := by kernel_rfl
@[simp] theorem callT_31 : callT Try.prog 31 = true := by kernel_rfl
@[simp] theorem callT_32 : callT Try.prog 32 = true := by kernel_rfl
@[simp] theorem callT_33 : callT Try.prog 33 = true := by kernel_rfl
@[simp] theorem callT_34 : callT Try.prog 34 = true := by kernel_rfl
@[simp] theorem callT_35 : callT Try.prog 35 = true := by kernel_rfl
@[simp] theorem callT_36 : callT Try.prog 36 = true := by kernel_rfl
@[simp] theorem callT_37 : callT Try.prog 37 = true := by kernel_rfl
@[simp] theorem callT_38 : callT Try.prog 38 = true := by kernel_rfl
@[simp] theorem callT_39 : callT Try.prog 39 = true := by kernel_rfl
@[simp] theorem callT_40 : callT Try.prog 40 = true := by kernel_rfl
@[simp] theorem callT_41 : callT Try.prog 41 = true := by kernel_rfl
@[simp] theorem callT_42 : callT Try.prog 42 = true := by kernel_rfl
@[simp] theorem callT_43 : callT Try.prog 43 = true := by kernel_rfl
@[simp] theorem callT_44 : callT Try.prog 44 = true := by kernel_rfl
@[simp] theorem callT_45 : callT Try.prog 45 = true := by kernel_rfl
@[simp] theorem callT_46 : callT Try.prog 46 = true := by kernel_rfl
@[simp] theorem callT_47 : callT Try.prog 47 = true := by kernel_rfl
@[simp] theorem callT_48 : callT Try.prog 48 = true := by kernel_rfl
@[simp] theorem callT_49 : callT Try.prog 49 = true := by kernel_rfl
@[simp] theorem callT_50 : callT Try.prog 50 = true := by kernel_rfl
@[simp] theorem callT_51 : callT Try.prog 51 = true := by kernel_rfl
@[simp] theorem callT_52 : callT Try.prog 52 = true := by kernel_rfl
@[simp] theorem callT_53 : callT Try.prog 53 = true := by kernel_rfl
@[simp] theorem callT_54 : callT Try.prog 54 = true := by kernel_rfl
end Go.Proofs.Yteneafgmcmgahaa.V
