/- Facts about this seat's types and functions, printed by my own program; each is checked by the kernel. -/
import Derived.Test.YtdhpdaogakignaaDoorProg
import Derived.Test.YtdhpdaogakignaaDoorV9
import Derived.KernelRfl
namespace Go.Proofs.YtdhpdaogakignaaDoor.V
open Go Go.Proofs
@[simp] theorem szT_1 : szT Tryd.prog 1 = some 1 := by kernel_rfl
@[simp] theorem byT_1 : byT Tryd.prog 1 = some 8 := by kernel_rfl
@[simp] theorem aggT_1 : aggT Tryd.prog 1 = some false := by kernel_rfl
@[simp] theorem zeroT_1 : zeroT Tryd.prog 1 = some [.nilFunc] := by kernel_rfl
@[simp] theorem eqK_1 : eqK Tryd.prog 1 = .func := by kernel_rfl
@[simp] theorem concT_1 : concT Tryd.prog 1 = true := by kernel_rfl
@[simp] theorem nintT_1 : nintT Tryd.prog 1 = true := by kernel_rfl
@[simp] theorem szT_2 : szT Tryd.prog 2 = some 1 := by kernel_rfl
@[simp] theorem byT_2 : byT Tryd.prog 2 = some 8 := by kernel_rfl
@[simp] theorem aggT_2 : aggT Tryd.prog 2 = some false := by kernel_rfl
@[simp] theorem zeroT_2 : zeroT Tryd.prog 2 = some [.int .i64 0] := by kernel_rfl
@[simp] theorem eqK_2 : eqK Tryd.prog 2 = .int := by kernel_rfl
@[simp] theorem concT_2 : concT Tryd.prog 2 = true := by kernel_rfl
@[simp] theorem szT_3 : szT Tryd.prog 3 = some 1 := by kernel_rfl
@[simp] theorem byT_3 : byT Tryd.prog 3 = some 8 := by kernel_rfl
@[simp] theorem aggT_3 : aggT Tryd.prog 3 = some false := by kernel_rfl
@[simp] theorem zeroT_3 : zeroT Tryd.prog 3 = some [.int .i64 0] := by kernel_rfl
@[simp] theorem eqK_3 : eqK Tryd.prog 3 = .int := by kernel_rfl
@[simp] theorem concT_3 : concT Tryd.prog 3 = true := by kernel_rfl
@[simp] theorem szT_4 : szT Tryd.prog 4 = some 1 := by kernel_rfl
@[simp] theorem byT_4 : byT Tryd.prog 4 = some 1 := by kernel_rfl
@[simp] theorem aggT_4 : aggT Tryd.prog 4 = some false := by kernel_rfl
@[simp] theorem zeroT_4 : zeroT Tryd.prog 4 = some [.bool false] := by kernel_rfl
@[simp] theorem eqK_4 : eqK Tryd.prog 4 = .bool := by kernel_rfl
@[simp] theorem concT_4 : concT Tryd.prog 4 = true := by kernel_rfl
@[simp] theorem nintT_4 : nintT Tryd.prog 4 = true := by kernel_rfl
@[simp] theorem szT_5 : szT Tryd.prog 5 = some 1 := by kernel_rfl
@[simp] theorem byT_5 : byT Tryd.prog 5 = some 1 := by kernel_rfl
@[simp] theorem aggT_5 : aggT Tryd.prog 5 = some false := by kernel_rfl
@[simp] theorem zeroT_5 : zeroT Tryd.prog 5 = some [.int .u8 0] := by kernel_rfl
@[simp] theorem eqK_5 : eqK Tryd.prog 5 = .int := by kernel_rfl
@[simp] theorem concT_5 : concT Tryd.prog 5 = true := by kernel_rfl
@[simp] theorem szT_7 : szT Tryd.prog 7 = some 4 := by kernel_rfl
@[simp] theorem byT_7 : byT Tryd.prog 7 = some 24 := by kernel_rfl
@[simp] theorem aggT_7 : aggT Tryd.prog 7 = some true := by kernel_rfl
@[simp] theorem zeroT_7 : zeroT Tryd.prog 7 = some [.int .i64 0, .int .i64 0, .bool false, .int .u8 0] := by kernel_rfl
@[simp] theorem fieldsT_7_0 : fieldsT Tryd.prog 7 0 = some (0, 2) := by kernel_rfl
@[simp] theorem fieldO_7_0 : fieldO Tryd.prog 7 0 = some 0 := by kernel_rfl
@[simp] theorem fieldsT_7_1 : fieldsT Tryd.prog 7 1 = some (1, 3) := by kernel_rfl
@[simp] theorem fieldO_7_1 : fieldO Tryd.prog 7 1 = some 1 := by kernel_rfl
@[simp] theorem fieldsT_7_2 : fieldsT Tryd.prog 7 2 = some (2, 4) := by kernel_rfl
@[simp] theorem fieldO_7_2 : fieldO Tryd.prog 7 2 = some 2 := by kernel_rfl
@[simp] theorem fieldsT_7_3 : fieldsT Tryd.prog 7 3 = some (3, 6) := by kernel_rfl
@[simp] theorem fieldO_7_3 : fieldO Tryd.prog 7 3 = some 3 := by kernel_rfl
@[simp] theorem placesT_7 : placesT Tryd.prog 7 = some [(0, 1), (1, 1), (2, 1), (3, 1)] := by kernel_rfl
@[simp] theorem arrT_7 : arrT Tryd.prog 7 = none := by kernel_rfl
@[simp] theorem eqK_7 : eqK Tryd.prog 7 = .struct [(2, 0), (3, 1), (4, 2), (6, 3)] := by kernel_rfl
@[simp] theorem eqG_7 : Program.eqGuardType Tryd.prog (Program.depth Tryd.prog) 7 = false := by kernel_rfl
@[simp] theorem concT_7 : concT Tryd.prog 7 = true := by kernel_rfl
@[simp] theorem nintT_7 : nintT Tryd.prog 7 = true := by kernel_rfl
@[simp] theorem szT_9 : szT Tryd.prog 9 = some 1 := by kernel_rfl
@[simp] theorem byT_9 : byT Tryd.prog 9 = some 16 := by kernel_rfl
@[simp] theorem aggT_9 : aggT Tryd.prog 9 = some false := by kernel_rfl
@[simp] theorem zeroT_9 : zeroT Tryd.prog 9 = some [.str ⟨#[]⟩] := by kernel_rfl
@[simp] theorem isStr_9 : isStr Tryd.prog 9 = true := by kernel_rfl
@[simp] theorem lenK_9 : lenK Tryd.prog 9 = .str := by kernel_rfl
@[simp] theorem eqK_9 : eqK Tryd.prog 9 = .string := by kernel_rfl
@[simp] theorem concT_9 : concT Tryd.prog 9 = true := by kernel_rfl
@[simp] theorem nintT_9 : nintT Tryd.prog 9 = true := by kernel_rfl
@[simp] theorem szT_12 : szT Tryd.prog 12 = some 1 := by kernel_rfl
@[simp] theorem byT_12 : byT Tryd.prog 12 = some 8 := by kernel_rfl
@[simp] theorem aggT_12 : aggT Tryd.prog 12 = some false := by kernel_rfl
@[simp] theorem zeroT_12 : zeroT Tryd.prog 12 = some [.int .u64 0] := by kernel_rfl
@[simp] theorem eqK_12 : eqK Tryd.prog 12 = .int := by kernel_rfl
@[simp] theorem concT_12 : concT Tryd.prog 12 = true := by kernel_rfl
@[simp] theorem szT_13 : szT Tryd.prog 13 = some 2 := by kernel_rfl
@[simp] theorem byT_13 : byT Tryd.prog 13 = some 24 := by kernel_rfl
@[simp] theorem aggT_13 : aggT Tryd.prog 13 = some true := by kernel_rfl
@[simp] theorem zeroT_13 : zeroT Tryd.prog 13 = some [.str ⟨#[]⟩, .int .u64 0] := by kernel_rfl
@[simp] theorem fieldsT_13_0 : fieldsT Tryd.prog 13 0 = some (0, 9) := by kernel_rfl
@[simp] theorem fieldO_13_0 : fieldO Tryd.prog 13 0 = some 0 := by kernel_rfl
@[simp] theorem fieldsT_13_1 : fieldsT Tryd.prog 13 1 = some (1, 12) := by kernel_rfl
@[simp] theorem fieldO_13_1 : fieldO Tryd.prog 13 1 = some 1 := by kernel_rfl
@[simp] theorem placesT_13 : placesT Tryd.prog 13 = some [(0, 1), (1, 1)] := by kernel_rfl
@[simp] theorem arrT_13 : arrT Tryd.prog 13 = none := by kernel_rfl
@[simp] theorem eqG_13 : Program.eqGuardType Tryd.prog (Program.depth Tryd.prog) 13 = false := by kernel_rfl
@[simp] theorem concT_13 : concT Tryd.prog 13 = true := by kernel_rfl
@[simp] theorem nintT_13 : nintT Tryd.prog 13 = true := by kernel_rfl
@[simp] theorem szT_15 : szT Tryd.prog 15 = some 1 := by kernel_rfl
@[simp] theorem byT_15 : byT Tryd.prog 15 = some 8 := by kernel_rfl
@[simp] theorem aggT_15 : aggT Tryd.prog 15 = some false := by kernel_rfl
@[simp] theorem zeroT_15 : zeroT Tryd.prog 15 = some [.nilptr] := by kernel_rfl
@[simp] theorem eqK_15 : eqK Tryd.prog 15 = .pointer := by kernel_rfl
@[simp] theorem concT_15 : concT Tryd.prog 15 = true := by kernel_rfl
@[simp] theorem nintT_15 : nintT Tryd.prog 15 = true := by kernel_rfl
@[simp] theorem szT_16 : szT Tryd.prog 16 = some 1 := by kernel_rfl
@[simp] theorem byT_16 : byT Tryd.prog 16 = some 8 := by kernel_rfl
@[simp] theorem aggT_16 : aggT Tryd.prog 16 = some false := by kernel_rfl
@[simp] theorem zeroT_16 : zeroT Tryd.prog 16 = some [.nilptr] := by kernel_rfl
@[simp] theorem eqK_16 : eqK Tryd.prog 16 = .pointer := by kernel_rfl
@[simp] theorem concT_16 : concT Tryd.prog 16 = true := by kernel_rfl
@[simp] theorem nintT_16 : nintT Tryd.prog 16 = true := by kernel_rfl
@[simp] theorem szT_17 : szT Tryd.prog 17 = some 1 := by kernel_rfl
@[simp] theorem byT_17 : byT Tryd.prog 17 = some 8 := by kernel_rfl
@[simp] theorem aggT_17 : aggT Tryd.prog 17 = some false := by kernel_rfl
@[simp] theorem zeroT_17 : zeroT Tryd.prog 17 = some [.nilptr] := by kernel_rfl
@[simp] theorem eqK_17 : eqK Tryd.prog 17 = .pointer := by kernel_rfl
@[simp] theorem concT_17 : concT Tryd.prog 17 = true := by kernel_rfl
@[simp] theorem nintT_17 : nintT Tryd.prog 17 = true := by kernel_rfl
@[simp] theorem szT_18 : szT Tryd.prog 18 = some 1 := by kernel_rfl
@[simp] theorem byT_18 : byT Tryd.prog 18 = some 8 := by kernel_rfl
@[simp] theorem aggT_18 : aggT Tryd.prog 18 = some true := by kernel_rfl
@[simp] theorem zeroT_18 : zeroT Tryd.prog 18 = some [.nilptr] := by kernel_rfl
@[simp] theorem fieldsT_18_0 : fieldsT Tryd.prog 18 0 = some (0, 17) := by kernel_rfl
@[simp] theorem fieldO_18_0 : fieldO Tryd.prog 18 0 = some 0 := by kernel_rfl
@[simp] theorem placesT_18 : placesT Tryd.prog 18 = some [(0, 1)] := by kernel_rfl
@[simp] theorem arrT_18 : arrT Tryd.prog 18 = none := by kernel_rfl
@[simp] theorem eqG_18 : Program.eqGuardType Tryd.prog (Program.depth Tryd.prog) 18 = false := by kernel_rfl
@[simp] theorem concT_18 : concT Tryd.prog 18 = true := by kernel_rfl
@[simp] theorem nintT_18 : nintT Tryd.prog 18 = true := by kernel_rfl
@[simp] theorem szT_20 : szT Tryd.prog 20 = some 1 := by kernel_rfl
@[simp] theorem byT_20 : byT Tryd.prog 20 = some 16 := by kernel_rfl
@[simp] theorem aggT_20 : aggT Tryd.prog 20 = some false := by kernel_rfl
@[simp] theorem zeroT_20 : zeroT Tryd.prog 20 = some [.nilIface] := by kernel_rfl
@[simp] theorem eqK_20 : eqK Tryd.prog 20 = .iface := by kernel_rfl
@[simp] theorem nintT_20 : nintT Tryd.prog 20 = true := by kernel_rfl
@[simp] theorem szT_21 : szT Tryd.prog 21 = some 1 := by kernel_rfl
@[simp] theorem byT_21 : byT Tryd.prog 21 = some 4 := by kernel_rfl
@[simp] theorem aggT_21 : aggT Tryd.prog 21 = some false := by kernel_rfl
@[simp] theorem zeroT_21 : zeroT Tryd.prog 21 = some [.int .i32 0] := by kernel_rfl
@[simp] theorem eqK_21 : eqK Tryd.prog 21 = .int := by kernel_rfl
@[simp] theorem concT_21 : concT Tryd.prog 21 = true := by kernel_rfl
@[simp] theorem szT_22 : szT Tryd.prog 22 = some 6 := by kernel_rfl
@[simp] theorem byT_22 : byT Tryd.prog 22 = some 48 := by kernel_rfl
@[simp] theorem aggT_22 : aggT Tryd.prog 22 = some true := by kernel_rfl
@[simp] theorem zeroT_22 : zeroT Tryd.prog 22 = some [.int .i64 0, .int .i64 0, .int .i64 0, .int .i64 0, .int .i64 0, .int .i64 0] := by kernel_rfl
@[simp] theorem fieldsT_22_0 : fieldsT Tryd.prog 22 0 = some (0, 2) := by kernel_rfl
@[simp] theorem fieldO_22_0 : fieldO Tryd.prog 22 0 = some 0 := by kernel_rfl
@[simp] theorem fieldsT_22_1 : fieldsT Tryd.prog 22 1 = some (1, 3) := by kernel_rfl
@[simp] theorem fieldO_22_1 : fieldO Tryd.prog 22 1 = some 1 := by kernel_rfl
@[simp] theorem fieldsT_22_2 : fieldsT Tryd.prog 22 2 = some (2, 2) := by kernel_rfl
@[simp] theorem fieldO_22_2 : fieldO Tryd.prog 22 2 = some 2 := by kernel_rfl
@[simp] theorem fieldsT_22_3 : fieldsT Tryd.prog 22 3 = some (3, 3) := by kernel_rfl
@[simp] theorem fieldO_22_3 : fieldO Tryd.prog 22 3 = some 3 := by kernel_rfl
@[simp] theorem fieldsT_22_4 : fieldsT Tryd.prog 22 4 = some (4, 3) := by kernel_rfl
@[simp] theorem fieldO_22_4 : fieldO Tryd.prog 22 4 = some 4 := by kernel_rfl
@[simp] theorem fieldsT_22_5 : fieldsT Tryd.prog 22 5 = some (5, 3) := by kernel_rfl
@[simp] theorem fieldO_22_5 : fieldO Tryd.prog 22 5 = some 5 := by kernel_rfl
@[simp] theorem placesT_22 : placesT Tryd.prog 22 = some [(0, 1), (1, 1), (2, 1), (3, 1), (4, 1), (5, 1)] := by kernel_rfl
@[simp] theorem arrT_22 : arrT Tryd.prog 22 = none := by kernel_rfl
@[simp] theorem eqK_22 : eqK Tryd.prog 22 = .struct [(2, 0), (3, 1), (2, 2), (3, 3), (3, 4), (3, 5)] := by kernel_rfl
@[simp] theorem eqG_22 : Program.eqGuardType Tryd.prog (Program.depth Tryd.prog) 22 = false := by kernel_rfl
@[simp] theorem concT_22 : concT Tryd.prog 22 = true := by kernel_rfl
@[simp] theorem nintT_22 : nintT Tryd.prog 22 = true := by kernel_rfl
@[simp] theorem szT_23 : szT Tryd.prog 23 = some 6 := by kernel_rfl
@[simp] theorem byT_23 : byT Tryd.prog 23 = some 48 := by kernel_rfl
@[simp] theorem aggT_23 : aggT Tryd.prog 23 = some true := by kernel_rfl
@[simp] theorem zeroT_23 : zeroT Tryd.prog 23 = some [.int .i64 0, .int .i64 0, .int .i64 0, .int .i64 0, .int .i64 0, .int .i64 0] := by kernel_rfl
@[simp] theorem fieldsT_23_0 : fieldsT Tryd.prog 23 0 = some (0, 2) := by kernel_rfl
@[simp] theorem fieldO_23_0 : fieldO Tryd.prog 23 0 = some 0 := by kernel_rfl
@[simp] theorem fieldsT_23_1 : fieldsT Tryd.prog 23 1 = some (1, 3) := by kernel_rfl
@[simp] theorem fieldO_23_1 : fieldO Tryd.prog 23 1 = some 1 := by kernel_rfl
@[simp] theorem fieldsT_23_2 : fieldsT Tryd.prog 23 2 = some (2, 2) := by kernel_rfl
@[simp] theorem fieldO_23_2 : fieldO Tryd.prog 23 2 = some 2 := by kernel_rfl
@[simp] theorem fieldsT_23_3 : fieldsT Tryd.prog 23 3 = some (3, 3) := by kernel_rfl
@[simp] theorem fieldO_23_3 : fieldO Tryd.prog 23 3 = some 3 := by kernel_rfl
@[simp] theorem fieldsT_23_4 : fieldsT Tryd.prog 23 4 = some (4, 3) := by kernel_rfl
@[simp] theorem fieldO_23_4 : fieldO Tryd.prog 23 4 = some 4 := by kernel_rfl
@[simp] theorem fieldsT_23_5 : fieldsT Tryd.prog 23 5 = some (5, 3) := by kernel_rfl
@[simp] theorem fieldO_23_5 : fieldO Tryd.prog 23 5 = some 5 := by kernel_rfl
@[simp] theorem placesT_23 : placesT Tryd.prog 23 = some [(0, 1), (1, 1), (2, 1), (3, 1), (4, 1), (5, 1)] := by kernel_rfl
@[simp] theorem arrT_23 : arrT Tryd.prog 23 = none := by kernel_rfl
@[simp] theorem eqK_23 : eqK Tryd.prog 23 = .struct [(2, 0), (3, 1), (2, 2), (3, 3), (3, 4), (3, 5)] := by kernel_rfl
@[simp] theorem eqG_23 : Program.eqGuardType Tryd.prog (Program.depth Tryd.prog) 23 = false := by kernel_rfl
@[simp] theorem concT_23 : concT Tryd.prog 23 = true := by kernel_rfl
@[simp] theorem nintT_23 : nintT Tryd.prog 23 = true := by kernel_rfl
@[simp] theorem szT_24 : szT Tryd.prog 24 = some 1 := by kernel_rfl
@[simp] theorem byT_24 : byT Tryd.prog 24 = some 8 := by kernel_rfl
@[simp] theorem aggT_24 : aggT Tryd.prog 24 = some false := by kernel_rfl
@[simp] theorem zeroT_24 : zeroT Tryd.prog 24 = some [.int .i64 0] := by kernel_rfl
@[simp] theorem eqK_24 : eqK Tryd.prog 24 = .int := by kernel_rfl
@[simp] theorem concT_24 : concT Tryd.prog 24 = true := by kernel_rfl
@[simp] theorem szT_26 : szT Tryd.prog 26 = some 1 := by kernel_rfl
@[simp] theorem byT_26 : byT Tryd.prog 26 = some 8 := by kernel_rfl
@[simp] theorem aggT_26 : aggT Tryd.prog 26 = some false := by kernel_rfl
@[simp] theorem zeroT_26 : zeroT Tryd.prog 26 = some [.nilFunc] := by kernel_rfl
@[simp] theorem eqK_26 : eqK Tryd.prog 26 = .func := by kernel_rfl
@[simp] theorem concT_26 : concT Tryd.prog 26 = true := by kernel_rfl
@[simp] theorem nintT_26 : nintT Tryd.prog 26 = true := by kernel_rfl
@[simp] theorem szT_27 : szT Tryd.prog 27 = some 1 := by kernel_rfl
@[simp] theorem byT_27 : byT Tryd.prog 27 = some 8 := by kernel_rfl
@[simp] theorem aggT_27 : aggT Tryd.prog 27 = some false := by kernel_rfl
@[simp] theorem zeroT_27 : zeroT Tryd.prog 27 = some [.nilFunc] := by kernel_rfl
@[simp] theorem eqK_27 : eqK Tryd.prog 27 = .func := by kernel_rfl
@[simp] theorem concT_27 : concT Tryd.prog 27 = true := by kernel_rfl
@[simp] theorem nintT_27 : nintT Tryd.prog 27 = true := by kernel_rfl
@[simp] theorem szT_28 : szT Tryd.prog 28 = some 1 := by kernel_rfl
@[simp] theorem byT_28 : byT Tryd.prog 28 = some 8 := by kernel_rfl
@[simp] theorem aggT_28 : aggT Tryd.prog 28 = some false := by kernel_rfl
@[simp] theorem zeroT_28 : zeroT Tryd.prog 28 = some [.nilFunc] := by kernel_rfl
@[simp] theorem eqK_28 : eqK Tryd.prog 28 = .func := by kernel_rfl
@[simp] theorem concT_28 : concT Tryd.prog 28 = true := by kernel_rfl
@[simp] theorem nintT_28 : nintT Tryd.prog 28 = true := by kernel_rfl
@[simp] theorem szT_29 : szT Tryd.prog 29 = some 1 := by kernel_rfl
@[simp] theorem byT_29 : byT Tryd.prog 29 = some 8 := by kernel_rfl
@[simp] theorem aggT_29 : aggT Tryd.prog 29 = some false := by kernel_rfl
@[simp] theorem zeroT_29 : zeroT Tryd.prog 29 = some [.nilFunc] := by kernel_rfl
@[simp] theorem eqK_29 : eqK Tryd.prog 29 = .func := by kernel_rfl
@[simp] theorem concT_29 : concT Tryd.prog 29 = true := by kernel_rfl
@[simp] theorem nintT_29 : nintT Tryd.prog 29 = true := by kernel_rfl
@[simp] theorem szT_30 : szT Tryd.prog 30 = some 1 := by kernel_rfl
@[simp] theorem byT_30 : byT Tryd.prog 30 = some 8 := by kernel_rfl
@[simp] theorem aggT_30 : aggT Tryd.prog 30 = some false := by kernel_rfl
@[simp] theorem zeroT_30 : zeroT Tryd.prog 30 = some [.nilFunc] := by kernel_rfl
@[simp] theorem eqK_30 : eqK Tryd.prog 30 = .func := by kernel_rfl
@[simp] theorem concT_30 : concT Tryd.prog 30 = true := by kernel_rfl
@[simp] theorem nintT_30 : nintT Tryd.prog 30 = true := by kernel_rfl
@[simp] theorem szT_31 : szT Tryd.prog 31 = some 1 := by kernel_rfl
@[simp] theorem byT_31 : byT Tryd.prog 31 = some 8 := by kernel_rfl
@[simp] theorem aggT_31 : aggT Tryd.prog 31 = some false := by kernel_rfl
@[simp] theorem zeroT_31 : zeroT Tryd.prog 31 = some [.nilFunc] := by kernel_rfl
@[simp] theorem eqK_31 : eqK Tryd.prog 31 = .func := by kernel_rfl
@[simp] theorem concT_31 : concT Tryd.prog 31 = true := by kernel_rfl
@[simp] theorem nintT_31 : nintT Tryd.prog 31 = true := by kernel_rfl
@[simp] theorem szT_32 : szT Tryd.prog 32 = some 1 := by kernel_rfl
@[simp] theorem byT_32 : byT Tryd.prog 32 = some 8 := by kernel_rfl
@[simp] theorem aggT_32 : aggT Tryd.prog 32 = some false := by kernel_rfl
@[simp] theorem zeroT_32 : zeroT Tryd.prog 32 = some [.nilFunc] := by kernel_rfl
@[simp] theorem eqK_32 : eqK Tryd.prog 32 = .func := by kernel_rfl
@[simp] theorem concT_32 : concT Tryd.prog 32 = true := by kernel_rfl
@[simp] theorem nintT_32 : nintT Tryd.prog 32 = true := by kernel_rfl
@[simp] theorem szT_33 : szT Tryd.prog 33 = some 1 := by kernel_rfl
@[simp] theorem byT_33 : byT Tryd.prog 33 = some 8 := by kernel_rfl
@[simp] theorem aggT_33 : aggT Tryd.prog 33 = some false := by kernel_rfl
@[simp] theorem zeroT_33 : zeroT Tryd.prog 33 = some [.nilFunc] := by kernel_rfl
@[simp] theorem eqK_33 : eqK Tryd.prog 33 = .func := by kernel_rfl
@[simp] theorem concT_33 : concT Tryd.prog 33 = true := by kernel_rfl
@[simp] theorem nintT_33 : nintT Tryd.prog 33 = true := by kernel_rfl
@[simp] theorem szT_34 : szT Tryd.prog 34 = some 1 := by kernel_rfl
@[simp] theorem byT_34 : byT Tryd.prog 34 = some 24 := by kernel_rfl
@[simp] theorem aggT_34 : aggT Tryd.prog 34 = some false := by kernel_rfl
@[simp] theorem zeroT_34 : zeroT Tryd.prog 34 = some [.nilslice] := by kernel_rfl
@[simp] theorem sliT_34 : sliT Tryd.prog 34 = some 9 := by kernel_rfl
@[simp] theorem lenK_34 : lenK Tryd.prog 34 = .slice := by kernel_rfl
@[simp] theorem eqK_34 : eqK Tryd.prog 34 = .slice := by kernel_rfl
@[simp] theorem arrT_34 : arrT Tryd.prog 34 = none := by kernel_rfl
@[simp] theorem concT_34 : concT Tryd.prog 34 = true := by kernel_rfl
@[simp] theorem nintT_34 : nintT Tryd.prog 34 = true := by kernel_rfl
@[simp] theorem szT_35 : szT Tryd.prog 35 = some 1 := by kernel_rfl
@[simp] theorem byT_35 : byT Tryd.prog 35 = some 8 := by kernel_rfl
@[simp] theorem aggT_35 : aggT Tryd.prog 35 = some false := by kernel_rfl
@[simp] theorem zeroT_35 : zeroT Tryd.prog 35 = some [.nilFunc] := by kernel_rfl
@[simp] theorem eqK_35 : eqK Tryd.prog 35 = .func := by kernel_rfl
@[simp] theorem concT_35 : concT Tryd.prog 35 = true := by kernel_rfl
@[simp] theorem nintT_35 : nintT Tryd.prog 35 = true := by kernel_rfl
@[simp] theorem szT_36 : szT Tryd.prog 36 = some 5 := by kernel_rfl
@[simp] theorem byT_36 : byT Tryd.prog 36 = some 40 := by kernel_rfl
@[simp] theorem aggT_36 : aggT Tryd.prog 36 = some true := by kernel_rfl
@[simp] theorem zeroT_36 : zeroT Tryd.prog 36 = some [.int .i64 0, .int .i64 0, .int .i64 0, .int .i64 0, .int .i64 0] := by kernel_rfl
@[simp] theorem arrT_36 : arrT Tryd.prog 36 = some (5, 2) := by kernel_rfl
@[simp] theorem eqK_36 : eqK Tryd.prog 36 = .array 5 2 1 := by kernel_rfl
@[simp] theorem lenK_36 : lenK Tryd.prog 36 = .arr 5 := by kernel_rfl
@[simp] theorem eqG_36 : Program.eqGuardType Tryd.prog (Program.depth Tryd.prog) 36 = false := by kernel_rfl
@[simp] theorem concT_36 : concT Tryd.prog 36 = true := by kernel_rfl
@[simp] theorem nintT_36 : nintT Tryd.prog 36 = true := by kernel_rfl
@[simp] theorem szT_37 : szT Tryd.prog 37 = some 1 := by kernel_rfl
@[simp] theorem byT_37 : byT Tryd.prog 37 = some 16 := by kernel_rfl
@[simp] theorem aggT_37 : aggT Tryd.prog 37 = some false := by kernel_rfl
@[simp] theorem zeroT_37 : zeroT Tryd.prog 37 = some [.nilIface] := by kernel_rfl
@[simp] theorem eqK_37 : eqK Tryd.prog 37 = .iface := by kernel_rfl
@[simp] theorem nintT_37 : nintT Tryd.prog 37 = true := by kernel_rfl
@[simp] theorem szT_38 : szT Tryd.prog 38 = some 1 := by kernel_rfl
@[simp] theorem byT_38 : byT Tryd.prog 38 = some 16 := by kernel_rfl
@[simp] theorem aggT_38 : aggT Tryd.prog 38 = some false := by kernel_rfl
@[simp] theorem zeroT_38 : zeroT Tryd.prog 38 = some [.nilIface] := by kernel_rfl
@[simp] theorem eqK_38 : eqK Tryd.prog 38 = .iface := by kernel_rfl
@[simp] theorem nintT_38 : nintT Tryd.prog 38 = true := by kernel_rfl
@[simp] theorem szT_40 : szT Tryd.prog 40 = some 1 := by kernel_rfl
@[simp] theorem byT_40 : byT Tryd.prog 40 = some 8 := by kernel_rfl
@[simp] theorem aggT_40 : aggT Tryd.prog 40 = some false := by kernel_rfl
@[simp] theorem zeroT_40 : zeroT Tryd.prog 40 = some [.nilFunc] := by kernel_rfl
@[simp] theorem eqK_40 : eqK Tryd.prog 40 = .func := by kernel_rfl
@[simp] theorem concT_40 : concT Tryd.prog 40 = true := by kernel_rfl
@[simp] theorem nintT_40 : nintT Tryd.prog 40 = true := by kernel_rfl
@[simp] theorem szT_41 : szT Tryd.prog 41 = some 13 := by kernel_rfl
@[simp] theorem byT_41 : byT Tryd.prog 41 = some 208 := by kernel_rfl
@[simp] theorem aggT_41 : aggT Tryd.prog 41 = some true := by kernel_rfl
@[simp] theorem zeroT_41 : zeroT Tryd.prog 41 = some [.str ⟨#[]⟩, .str ⟨#[]⟩, .str ⟨#[]⟩, .str ⟨#[]⟩, .str ⟨#[]⟩, .str ⟨#[]⟩, .str ⟨#[]⟩, .str ⟨#[]⟩, .str ⟨#[]⟩, .str ⟨#[]⟩, .str ⟨#[]⟩, .str ⟨#[]⟩, .str ⟨#[]⟩] := by kernel_rfl
@[simp] theorem arrT_41 : arrT Tryd.prog 41 = some (13, 9) := by kernel_rfl
@[simp] theorem eqK_41 : eqK Tryd.prog 41 = .array 13 9 1 := by kernel_rfl
@[simp] theorem lenK_41 : lenK Tryd.prog 41 = .arr 13 := by kernel_rfl
@[simp] theorem eqG_41 : Program.eqGuardType Tryd.prog (Program.depth Tryd.prog) 41 = false := by kernel_rfl
@[simp] theorem concT_41 : concT Tryd.prog 41 = true := by kernel_rfl
@[simp] theorem nintT_41 : nintT Tryd.prog 41 = true := by kernel_rfl
@[simp] theorem szT_42 : szT Tryd.prog 42 = some 1 := by kernel_rfl
@[simp] theorem byT_42 : byT Tryd.prog 42 = some 8 := by kernel_rfl
@[simp] theorem aggT_42 : aggT Tryd.prog 42 = some false := by kernel_rfl
@[simp] theorem zeroT_42 : zeroT Tryd.prog 42 = some [.nilFunc] := by kernel_rfl
@[simp] theorem eqK_42 : eqK Tryd.prog 42 = .func := by kernel_rfl
@[simp] theorem concT_42 : concT Tryd.prog 42 = true := by kernel_rfl
@[simp] theorem nintT_42 : nintT Tryd.prog 42 = true := by kernel_rfl
@[simp] theorem szT_43 : szT Tryd.prog 43 = some 1 := by kernel_rfl
@[simp] theorem byT_43 : byT Tryd.prog 43 = some 24 := by kernel_rfl
@[simp] theorem aggT_43 : aggT Tryd.prog 43 = some false := by kernel_rfl
@[simp] theorem zeroT_43 : zeroT Tryd.prog 43 = some [.nilslice] := by kernel_rfl
@[simp] theorem sliT_43 : sliT Tryd.prog 43 = some 5 := by kernel_rfl
@[simp] theorem lenK_43 : lenK Tryd.prog 43 = .slice := by kernel_rfl
@[simp] theorem eqK_43 : eqK Tryd.prog 43 = .slice := by kernel_rfl
@[simp] theorem arrT_43 : arrT Tryd.prog 43 = none := by kernel_rfl
@[simp] theorem concT_43 : concT Tryd.prog 43 = true := by kernel_rfl
@[simp] theorem nintT_43 : nintT Tryd.prog 43 = true := by kernel_rfl
@[simp] theorem szT_45 : szT Tryd.prog 45 = some 1 := by kernel_rfl
@[simp] theorem byT_45 : byT Tryd.prog 45 = some 8 := by kernel_rfl
@[simp] theorem aggT_45 : aggT Tryd.prog 45 = some false := by kernel_rfl
@[simp] theorem zeroT_45 : zeroT Tryd.prog 45 = some [.nilFunc] := by kernel_rfl
@[simp] theorem eqK_45 : eqK Tryd.prog 45 = .func := by kernel_rfl
@[simp] theorem concT_45 : concT Tryd.prog 45 = true := by kernel_rfl
@[simp] theorem nintT_45 : nintT Tryd.prog 45 = true := by kernel_rfl
@[simp] theorem szT_46 : szT Tryd.prog 46 = some 1 := by kernel_rfl
@[simp] theorem byT_46 : byT Tryd.prog 46 = some 8 := by kernel_rfl
@[simp] theorem aggT_46 : aggT Tryd.prog 46 = some false := by kernel_rfl
@[simp] theorem zeroT_46 : zeroT Tryd.prog 46 = some [.nilFunc] := by kernel_rfl
@[simp] theorem eqK_46 : eqK Tryd.prog 46 = .func := by kernel_rfl
@[simp] theorem concT_46 : concT Tryd.prog 46 = true := by kernel_rfl
@[simp] theorem nintT_46 : nintT Tryd.prog 46 = true := by kernel_rfl
@[simp] theorem szT_47 : szT Tryd.prog 47 = some 1 := by kernel_rfl
@[simp] theorem byT_47 : byT Tryd.prog 47 = some 8 := by kernel_rfl
@[simp] theorem aggT_47 : aggT Tryd.prog 47 = some false := by kernel_rfl
@[simp] theorem zeroT_47 : zeroT Tryd.prog 47 = some [.nilFunc] := by kernel_rfl
@[simp] theorem eqK_47 : eqK Tryd.prog 47 = .func := by kernel_rfl
@[simp] theorem concT_47 : concT Tryd.prog 47 = true := by kernel_rfl
@[simp] theorem nintT_47 : nintT Tryd.prog 47 = true := by kernel_rfl
@[simp] theorem szT_48 : szT Tryd.prog 48 = some 1 := by kernel_rfl
@[simp] theorem byT_48 : byT Tryd.prog 48 = some 8 := by kernel_rfl
@[simp] theorem aggT_48 : aggT Tryd.prog 48 = some false := by kernel_rfl
@[simp] theorem zeroT_48 : zeroT Tryd.prog 48 = some [.nilFunc] := by kernel_rfl
@[simp] theorem eqK_48 : eqK Tryd.prog 48 = .func := by kernel_rfl
@[simp] theorem concT_48 : concT Tryd.prog 48 = true := by kernel_rfl
@[simp] theorem nintT_48 : nintT Tryd.prog 48 = true := by kernel_rfl
@[simp] theorem szT_49 : szT Tryd.prog 49 = some 1 := by kernel_rfl
@[simp] theorem byT_49 : byT Tryd.prog 49 = some 8 := by kernel_rfl
@[simp] theorem aggT_49 : aggT Tryd.prog 49 = some false := by kernel_rfl
@[simp] theorem zeroT_49 : zeroT Tryd.prog 49 = some [.nilFunc] := by kernel_rfl
@[simp] theorem eqK_49 : eqK Tryd.prog 49 = .func := by kernel_rfl
@[simp] theorem concT_49 : concT Tryd.prog 49 = true := by kernel_rfl
@[simp] theorem nintT_49 : nintT Tryd.prog 49 = true := by kernel_rfl
@[simp] theorem szT_50 : szT Tryd.prog 50 = some 1 := by kernel_rfl
@[simp] theorem byT_50 : byT Tryd.prog 50 = some 8 := by kernel_rfl
@[simp] theorem aggT_50 : aggT Tryd.prog 50 = some false := by kernel_rfl
@[simp] theorem zeroT_50 : zeroT Tryd.prog 50 = some [.nilFunc] := by kernel_rfl
@[simp] theorem eqK_50 : eqK Tryd.prog 50 = .func := by kernel_rfl
@[simp] theorem concT_50 : concT Tryd.prog 50 = true := by kernel_rfl
@[simp] theorem nintT_50 : nintT Tryd.prog 50 = true := by kernel_rfl
@[simp] theorem szT_51 : szT Tryd.prog 51 = some 1 := by kernel_rfl
@[simp] theorem byT_51 : byT Tryd.prog 51 = some 8 := by kernel_rfl
@[simp] theorem aggT_51 : aggT Tryd.prog 51 = some false := by kernel_rfl
@[simp] theorem zeroT_51 : zeroT Tryd.prog 51 = some [.nilFunc] := by kernel_rfl
@[simp] theorem eqK_51 : eqK Tryd.prog 51 = .func := by kernel_rfl
@[simp] theorem concT_51 : concT Tryd.prog 51 = true := by kernel_rfl
@[simp] theorem nintT_51 : nintT Tryd.prog 51 = true := by kernel_rfl
@[simp] theorem szT_52 : szT Tryd.prog 52 = some 1 := by kernel_rfl
@[simp] theorem byT_52 : byT Tryd.prog 52 = some 8 := by kernel_rfl
@[simp] theorem aggT_52 : aggT Tryd.prog 52 = some false := by kernel_rfl
@[simp] theorem zeroT_52 : zeroT Tryd.prog 52 = some [.nilFunc] := by kernel_rfl
@[simp] theorem eqK_52 : eqK Tryd.prog 52 = .func := by kernel_rfl
@[simp] theorem concT_52 : concT Tryd.prog 52 = true := by kernel_rfl
@[simp] theorem nintT_52 : nintT Tryd.prog 52 = true := by kernel_rfl
@[simp] theorem szT_53 : szT Tryd.prog 53 = some 1 := by kernel_rfl
@[simp] theorem byT_53 : byT Tryd.prog 53 = some 8 := by kernel_rfl
@[simp] theorem aggT_53 : aggT Tryd.prog 53 = some false := by kernel_rfl
@[simp] theorem zeroT_53 : zeroT Tryd.prog 53 = some [.nilFunc] := by kernel_rfl
@[simp] theorem eqK_53 : eqK Tryd.prog 53 = .func := by kernel_rfl
@[simp] theorem concT_53 : concT Tryd.prog 53 = true := by kernel_rfl
@[simp] theorem nintT_53 : nintT Tryd.prog 53 = true := by kernel_rfl
@[simp] theorem szT_54 : szT Tryd.prog 54 = some 1 := by kernel_rfl
@[simp] theorem byT_54 : byT Tryd.prog 54 = some 8 := by kernel_rfl
@[simp] theorem aggT_54 : aggT Tryd.prog 54 = some false := by kernel_rfl
@[simp] theorem zeroT_54 : zeroT Tryd.prog 54 = some [.nilFunc] := by kernel_rfl
@[simp] theorem eqK_54 : eqK Tryd.prog 54 = .func := by kernel_rfl
@[simp] theorem concT_54 : concT Tryd.prog 54 = true := by kernel_rfl
@[simp] theorem nintT_54 : nintT Tryd.prog 54 = true := by kernel_rfl
@[simp] theorem szT_55 : szT Tryd.prog 55 = some 1 := by kernel_rfl
@[simp] theorem byT_55 : byT Tryd.prog 55 = some 8 := by kernel_rfl
@[simp] theorem aggT_55 : aggT Tryd.prog 55 = some false := by kernel_rfl
@[simp] theorem zeroT_55 : zeroT Tryd.prog 55 = some [.int .u64 0] := by kernel_rfl
@[simp] theorem eqK_55 : eqK Tryd.prog 55 = .int := by kernel_rfl
@[simp] theorem concT_55 : concT Tryd.prog 55 = true := by kernel_rfl
@[simp] theorem szT_56 : szT Tryd.prog 56 = some 1 := by kernel_rfl
@[simp] theorem byT_56 : byT Tryd.prog 56 = some 24 := by kernel_rfl
@[simp] theorem aggT_56 : aggT Tryd.prog 56 = some false := by kernel_rfl
@[simp] theorem zeroT_56 : zeroT Tryd.prog 56 = some [.nilslice] := by kernel_rfl
@[simp] theorem sliT_56 : sliT Tryd.prog 56 = some 3 := by kernel_rfl
@[simp] theorem lenK_56 : lenK Tryd.prog 56 = .slice := by kernel_rfl
@[simp] theorem eqK_56 : eqK Tryd.prog 56 = .slice := by kernel_rfl
@[simp] theorem arrT_56 : arrT Tryd.prog 56 = none := by kernel_rfl
@[simp] theorem concT_56 : concT Tryd.prog 56 = true := by kernel_rfl
@[simp] theorem nintT_56 : nintT Tryd.prog 56 = true := by kernel_rfl
@[simp] theorem szT_57 : szT Tryd.prog 57 = some 1 := by kernel_rfl
@[simp] theorem byT_57 : byT Tryd.prog 57 = some 8 := by kernel_rfl
@[simp] theorem aggT_57 : aggT Tryd.prog 57 = some false := by kernel_rfl
@[simp] theorem zeroT_57 : zeroT Tryd.prog 57 = some [.nilFunc] := by kernel_rfl
@[simp] theorem eqK_57 : eqK Tryd.prog 57 = .func := by kernel_rfl
@[simp] theorem concT_57 : concT Tryd.prog 57 = true := by kernel_rfl
@[simp] theorem nintT_57 : nintT Tryd.prog 57 = true := by kernel_rfl
@[simp] theorem szT_58 : szT Tryd.prog 58 = some 1 := by kernel_rfl
@[simp] theorem byT_58 : byT Tryd.prog 58 = some 8 := by kernel_rfl
@[simp] theorem aggT_58 : aggT Tryd.prog 58 = some false := by kernel_rfl
@[simp] theorem zeroT_58 : zeroT Tryd.prog 58 = some [.nilFunc] := by kernel_rfl
@[simp] theorem eqK_58 : eqK Tryd.prog 58 = .func := by kernel_rfl
@[simp] theorem concT_58 : concT Tryd.prog 58 = true := by kernel_rfl
@[simp] theorem nintT_58 : nintT Tryd.prog 58 = true := by kernel_rfl
@[simp] theorem szT_59 : szT Tryd.prog 59 = some 1 := by kernel_rfl
@[simp] theorem byT_59 : byT Tryd.prog 59 = some 8 := by kernel_rfl
@[simp] theorem aggT_59 : aggT Tryd.prog 59 = some false := by kernel_rfl
@[simp] theorem zeroT_59 : zeroT Tryd.prog 59 = some [.nilFunc] := by kernel_rfl
@[simp] theorem eqK_59 : eqK Tryd.prog 59 = .func := by kernel_rfl
@[simp] theorem concT_59 : concT Tryd.prog 59 = true := by kernel_rfl
@[simp] theorem nintT_59 : nintT Tryd.prog 59 = true := by kernel_rfl
@[simp] theorem szT_60 : szT Tryd.prog 60 = some 1 := by kernel_rfl
@[simp] theorem byT_60 : byT Tryd.prog 60 = some 8 := by kernel_rfl
@[simp] theorem aggT_60 : aggT Tryd.prog 60 = some false := by kernel_rfl
@[simp] theorem zeroT_60 : zeroT Tryd.prog 60 = some [.nilFunc] := by kernel_rfl
@[simp] theorem eqK_60 : eqK Tryd.prog 60 = .func := by kernel_rfl
@[simp] theorem concT_60 : concT Tryd.prog 60 = true := by kernel_rfl
@[simp] theorem nintT_60 : nintT Tryd.prog 60 = true := by kernel_rfl
@[simp] theorem szT_63 : szT Tryd.prog 63 = some 1 := by kernel_rfl
@[simp] theorem byT_63 : byT Tryd.prog 63 = some 8 := by kernel_rfl
@[simp] theorem aggT_63 : aggT Tryd.prog 63 = some false := by kernel_rfl
@[simp] theorem zeroT_63 : zeroT Tryd.prog 63 = some [.nilFunc] := by kernel_rfl
@[simp] theorem eqK_63 : eqK Tryd.prog 63 = .func := by kernel_rfl
@[simp] theorem concT_63 : concT Tryd.prog 63 = true := by kernel_rfl
@[simp] theorem nintT_63 : nintT Tryd.prog 63 = true := by kernel_rfl
@[simp] theorem szT_64 : szT Tryd.prog 64 = some 1 := by kernel_rfl
@[simp] theorem byT_64 : byT Tryd.prog 64 = some 8 := by kernel_rfl
@[simp] theorem aggT_64 : aggT Tryd.prog 64 = some false := by kernel_rfl
@[simp] theorem zeroT_64 : zeroT Tryd.prog 64 = some [.int .u64 0] := by kernel_rfl
@[simp] theorem eqK_64 : eqK Tryd.prog 64 = .int := by kernel_rfl
@[simp] theorem concT_64 : concT Tryd.prog 64 = true := by kernel_rfl
@[simp] theorem szT_65 : szT Tryd.prog 65 = some 1 := by kernel_rfl
@[simp] theorem byT_65 : byT Tryd.prog 65 = some 8 := by kernel_rfl
@[simp] theorem aggT_65 : aggT Tryd.prog 65 = some false := by kernel_rfl
@[simp] theorem zeroT_65 : zeroT Tryd.prog 65 = some [.nilptr] := by kernel_rfl
@[simp] theorem eqK_65 : eqK Tryd.prog 65 = .pointer := by kernel_rfl
@[simp] theorem concT_65 : concT Tryd.prog 65 = true := by kernel_rfl
@[simp] theorem nintT_65 : nintT Tryd.prog 65 = true := by kernel_rfl
@[simp] theorem szT_66 : szT Tryd.prog 66 = some 1 := by kernel_rfl
@[simp] theorem byT_66 : byT Tryd.prog 66 = some 8 := by kernel_rfl
@[simp] theorem aggT_66 : aggT Tryd.prog 66 = some false := by kernel_rfl
@[simp] theorem zeroT_66 : zeroT Tryd.prog 66 = some [.nilFunc] := by kernel_rfl
@[simp] theorem eqK_66 : eqK Tryd.prog 66 = .func := by kernel_rfl
@[simp] theorem concT_66 : concT Tryd.prog 66 = true := by kernel_rfl
@[simp] theorem nintT_66 : nintT Tryd.prog 66 = true := by kernel_rfl
@[simp] theorem szT_67 : szT Tryd.prog 67 = some 1 := by kernel_rfl
@[simp] theorem byT_67 : byT Tryd.prog 67 = some 8 := by kernel_rfl
@[simp] theorem aggT_67 : aggT Tryd.prog 67 = some false := by kernel_rfl
@[simp] theorem zeroT_67 : zeroT Tryd.prog 67 = some [.nilFunc] := by kernel_rfl
@[simp] theorem eqK_67 : eqK Tryd.prog 67 = .func := by kernel_rfl
@[simp] theorem concT_67 : concT Tryd.prog 67 = true := by kernel_rfl
@[simp] theorem nintT_67 : nintT Tryd.prog 67 = true := by kernel_rfl
@[simp] theorem szT_68 : szT Tryd.prog 68 = some 1 := by kernel_rfl
@[simp] theorem byT_68 : byT Tryd.prog 68 = some 8 := by kernel_rfl
@[simp] theorem aggT_68 : aggT Tryd.prog 68 = some false := by kernel_rfl
@[simp] theorem zeroT_68 : zeroT Tryd.prog 68 = some [.nilptr] := by kernel_rfl
@[simp] theorem eqK_68 : eqK Tryd.prog 68 = .pointer := by kernel_rfl
@[simp] theorem concT_68 : concT Tryd.prog 68 = true := by kernel_rfl
@[simp] theorem nintT_68 : nintT Tryd.prog 68 = true := by kernel_rfl
@[simp] theorem szT_69 : szT Tryd.prog 69 = some 2 := by kernel_rfl
@[simp] theorem byT_69 : byT Tryd.prog 69 = some 32 := by kernel_rfl
@[simp] theorem aggT_69 : aggT Tryd.prog 69 = some true := by kernel_rfl
@[simp] theorem zeroT_69 : zeroT Tryd.prog 69 = some [.nilptr, .nilslice] := by kernel_rfl
@[simp] theorem fieldsT_69_0 : fieldsT Tryd.prog 69 0 = some (0, 68) := by kernel_rfl
@[simp] theorem fieldO_69_0 : fieldO Tryd.prog 69 0 = some 0 := by kernel_rfl
@[simp] theorem fieldsT_69_1 : fieldsT Tryd.prog 69 1 = some (1, 43) := by kernel_rfl
@[simp] theorem fieldO_69_1 : fieldO Tryd.prog 69 1 = some 1 := by kernel_rfl
@[simp] theorem placesT_69 : placesT Tryd.prog 69 = some [(0, 1), (1, 1)] := by kernel_rfl
@[simp] theorem arrT_69 : arrT Tryd.prog 69 = none := by kernel_rfl
@[simp] theorem eqK_69 : eqK Tryd.prog 69 = .struct [(68, 0), (43, 1)] := by kernel_rfl
@[simp] theorem eqG_69 : Program.eqGuardType Tryd.prog (Program.depth Tryd.prog) 69 = false := by kernel_rfl
@[simp] theorem concT_69 : concT Tryd.prog 69 = true := by kernel_rfl
@[simp] theorem nintT_69 : nintT Tryd.prog 69 = true := by kernel_rfl
@[simp] theorem szT_70 : szT Tryd.prog 70 = some 2 := by kernel_rfl
@[simp] theorem byT_70 : byT Tryd.prog 70 = some 32 := by kernel_rfl
@[simp] theorem aggT_70 : aggT Tryd.prog 70 = some true := by kernel_rfl
@[simp] theorem zeroT_70 : zeroT Tryd.prog 70 = some [.nilptr, .nilslice] := by kernel_rfl
@[simp] theorem fieldsT_70_0 : fieldsT Tryd.prog 70 0 = some (0, 68) := by kernel_rfl
@[simp] theorem fieldO_70_0 : fieldO Tryd.prog 70 0 = some 0 := by kernel_rfl
@[simp] theorem fieldsT_70_1 : fieldsT Tryd.prog 70 1 = some (1, 43) := by kernel_rfl
@[simp] theorem fieldO_70_1 : fieldO Tryd.prog 70 1 = some 1 := by kernel_rfl
@[simp] theorem placesT_70 : placesT Tryd.prog 70 = some [(0, 1), (1, 1)] := by kernel_rfl
@[simp] theorem arrT_70 : arrT Tryd.prog 70 = none := by kernel_rfl
@[simp] theorem eqK_70 : eqK Tryd.prog 70 = .struct [(68, 0), (43, 1)] := by kernel_rfl
@[simp] theorem eqG_70 : Program.eqGuardType Tryd.prog (Program.depth Tryd.prog) 70 = false := by kernel_rfl
@[simp] theorem concT_70 : concT Tryd.prog 70 = true := by kernel_rfl
@[simp] theorem nintT_70 : nintT Tryd.prog 70 = true := by kernel_rfl
@[simp] theorem szT_71 : szT Tryd.prog 71 = some 1 := by kernel_rfl
@[simp] theorem byT_71 : byT Tryd.prog 71 = some 8 := by kernel_rfl
@[simp] theorem aggT_71 : aggT Tryd.prog 71 = some false := by kernel_rfl
@[simp] theorem zeroT_71 : zeroT Tryd.prog 71 = some [.nilFunc] := by kernel_rfl
@[simp] theorem eqK_71 : eqK Tryd.prog 71 = .func := by kernel_rfl
@[simp] theorem concT_71 : concT Tryd.prog 71 = true := by kernel_rfl
@[simp] theorem nintT_71 : nintT Tryd.prog 71 = true := by kernel_rfl
@[simp] theorem szT_73 : szT Tryd.prog 73 = some 1 := by kernel_rfl
@[simp] theorem byT_73 : byT Tryd.prog 73 = some 8 := by kernel_rfl
@[simp] theorem aggT_73 : aggT Tryd.prog 73 = some false := by kernel_rfl
@[simp] theorem zeroT_73 : zeroT Tryd.prog 73 = some [.nilFunc] := by kernel_rfl
@[simp] theorem eqK_73 : eqK Tryd.prog 73 = .func := by kernel_rfl
@[simp] theorem concT_73 : concT Tryd.prog 73 = true := by kernel_rfl
@[simp] theorem nintT_73 : nintT Tryd.prog 73 = true := by kernel_rfl
@[simp] theorem szT_74 : szT Tryd.prog 74 = some 1 := by kernel_rfl
@[simp] theorem byT_74 : byT Tryd.prog 74 = some 8 := by kernel_rfl
@[simp] theorem aggT_74 : aggT Tryd.prog 74 = some false := by kernel_rfl
@[simp] theorem zeroT_74 : zeroT Tryd.prog 74 = some [.nilFunc] := by kernel_rfl
@[simp] theorem eqK_74 : eqK Tryd.prog 74 = .func := by kernel_rfl
@[simp] theorem concT_74 : concT Tryd.prog 74 = true := by kernel_rfl
@[simp] theorem nintT_74 : nintT Tryd.prog 74 = true := by kernel_rfl
@[simp] theorem szT_75 : szT Tryd.prog 75 = some 1 := by kernel_rfl
@[simp] theorem byT_75 : byT Tryd.prog 75 = some 8 := by kernel_rfl
@[simp] theorem aggT_75 : aggT Tryd.prog 75 = some false := by kernel_rfl
@[simp] theorem zeroT_75 : zeroT Tryd.prog 75 = some [.nilFunc] := by kernel_rfl
@[simp] theorem eqK_75 : eqK Tryd.prog 75 = .func := by kernel_rfl
@[simp] theorem concT_75 : concT Tryd.prog 75 = true := by kernel_rfl
@[simp] theorem nintT_75 : nintT Tryd.prog 75 = true := by kernel_rfl
@[simp] theorem szT_76 : szT Tryd.prog 76 = some 1 := by kernel_rfl
@[simp] theorem byT_76 : byT Tryd.prog 76 = some 8 := by kernel_rfl
@[simp] theorem aggT_76 : aggT Tryd.prog 76 = some false := by kernel_rfl
@[simp] theorem zeroT_76 : zeroT Tryd.prog 76 = some [.nilFunc] := by kernel_rfl
@[simp] theorem eqK_76 : eqK Tryd.prog 76 = .func := by kernel_rfl
@[simp] theorem concT_76 : concT Tryd.prog 76 = true := by kernel_rfl
@[simp] theorem nintT_76 : nintT Tryd.prog 76 = true := by kernel_rfl
@[simp] theorem szT_78 : szT Tryd.prog 78 = some 1 := by kernel_rfl
@[simp] theorem byT_78 : byT Tryd.prog 78 = some 8 := by kernel_rfl
@[simp] theorem aggT_78 : aggT Tryd.prog 78 = some false := by kernel_rfl
@[simp] theorem zeroT_78 : zeroT Tryd.prog 78 = some [.nilFunc] := by kernel_rfl
@[simp] theorem eqK_78 : eqK Tryd.prog 78 = .func := by kernel_rfl
@[simp] theorem concT_78 : concT Tryd.prog 78 = true := by kernel_rfl
@[simp] theorem nintT_78 : nintT Tryd.prog 78 = true := by kernel_rfl
@[simp] theorem szT_79 : szT Tryd.prog 79 = some 1 := by kernel_rfl
@[simp] theorem byT_79 : byT Tryd.prog 79 = some 8 := by kernel_rfl
@[simp] theorem aggT_79 : aggT Tryd.prog 79 = some false := by kernel_rfl
@[simp] theorem zeroT_79 : zeroT Tryd.prog 79 = some [.nilFunc] := by kernel_rfl
@[simp] theorem eqK_79 : eqK Tryd.prog 79 = .func := by kernel_rfl
@[simp] theorem concT_79 : concT Tryd.prog 79 = true := by kernel_rfl
@[simp] theorem nintT_79 : nintT Tryd.prog 79 = true := by kernel_rfl
@[simp] theorem szT_80 : szT Tryd.prog 80 = some 1 := by kernel_rfl
@[simp] theorem byT_80 : byT Tryd.prog 80 = some 8 := by kernel_rfl
@[simp] theorem aggT_80 : aggT Tryd.prog 80 = some false := by kernel_rfl
@[simp] theorem zeroT_80 : zeroT Tryd.prog 80 = some [.nilFunc] := by kernel_rfl
@[simp] theorem eqK_80 : eqK Tryd.prog 80 = .func := by kernel_rfl
@[simp] theorem concT_80 : concT Tryd.prog 80 = true := by kernel_rfl
@[simp] theorem nintT_80 : nintT Tryd.prog 80 = true := by kernel_rfl
@[simp] theorem szT_81 : szT Tryd.prog 81 = some 1 := by kernel_rfl
@[simp] theorem byT_81 : byT Tryd.prog 81 = some 8 := by kernel_rfl
@[simp] theorem aggT_81 : aggT Tryd.prog 81 = some false := by kernel_rfl
@[simp] theorem zeroT_81 : zeroT Tryd.prog 81 = some [.nilFunc] := by kernel_rfl
@[simp] theorem eqK_81 : eqK Tryd.prog 81 = .func := by kernel_rfl
@[simp] theorem concT_81 : concT Tryd.prog 81 = true := by kernel_rfl
@[simp] theorem nintT_81 : nintT Tryd.prog 81 = true := by kernel_rfl
@[simp] theorem szT_82 : szT Tryd.prog 82 = some 1 := by kernel_rfl
@[simp] theorem byT_82 : byT Tryd.prog 82 = some 8 := by kernel_rfl
@[simp] theorem aggT_82 : aggT Tryd.prog 82 = some false := by kernel_rfl
@[simp] theorem zeroT_82 : zeroT Tryd.prog 82 = some [.nilFunc] := by kernel_rfl
@[simp] theorem eqK_82 : eqK Tryd.prog 82 = .func := by kernel_rfl
@[simp] theorem concT_82 : concT Tryd.prog 82 = true := by kernel_rfl
@[simp] theorem nintT_82 : nintT Tryd.prog 82 = true := by kernel_rfl
@[simp] theorem szT_83 : szT Tryd.prog 83 = some 3 := by kernel_rfl
@[simp] theorem byT_83 : byT Tryd.prog 83 = some 48 := by kernel_rfl
@[simp] theorem aggT_83 : aggT Tryd.prog 83 = some true := by kernel_rfl
@[simp] theorem zeroT_83 : zeroT Tryd.prog 83 = some [.str ⟨#[]⟩, .str ⟨#[]⟩, .nilIface] := by kernel_rfl
@[simp] theorem fieldsT_83_0 : fieldsT Tryd.prog 83 0 = some (0, 9) := by kernel_rfl
@[simp] theorem fieldO_83_0 : fieldO Tryd.prog 83 0 = some 0 := by kernel_rfl
@[simp] theorem fieldsT_83_1 : fieldsT Tryd.prog 83 1 = some (1, 9) := by kernel_rfl
@[simp] theorem fieldO_83_1 : fieldO Tryd.prog 83 1 = some 1 := by kernel_rfl
@[simp] theorem fieldsT_83_2 : fieldsT Tryd.prog 83 2 = some (2, 38) := by kernel_rfl
@[simp] theorem fieldO_83_2 : fieldO Tryd.prog 83 2 = some 2 := by kernel_rfl
@[simp] theorem placesT_83 : placesT Tryd.prog 83 = some [(0, 1), (1, 1), (2, 1)] := by kernel_rfl
@[simp] theorem arrT_83 : arrT Tryd.prog 83 = none := by kernel_rfl
@[simp] theorem eqK_83 : eqK Tryd.prog 83 = .struct [(9, 0), (9, 1), (38, 2)] := by kernel_rfl
@[simp] theorem concT_83 : concT Tryd.prog 83 = true := by kernel_rfl
@[simp] theorem nintT_83 : nintT Tryd.prog 83 = true := by kernel_rfl
@[simp] theorem szT_84 : szT Tryd.prog 84 = some 3 := by kernel_rfl
@[simp] theorem byT_84 : byT Tryd.prog 84 = some 48 := by kernel_rfl
@[simp] theorem aggT_84 : aggT Tryd.prog 84 = some true := by kernel_rfl
@[simp] theorem zeroT_84 : zeroT Tryd.prog 84 = some [.str ⟨#[]⟩, .str ⟨#[]⟩, .nilIface] := by kernel_rfl
@[simp] theorem fieldsT_84_0 : fieldsT Tryd.prog 84 0 = some (0, 9) := by kernel_rfl
@[simp] theorem fieldO_84_0 : fieldO Tryd.prog 84 0 = some 0 := by kernel_rfl
@[simp] theorem fieldsT_84_1 : fieldsT Tryd.prog 84 1 = some (1, 9) := by kernel_rfl
@[simp] theorem fieldO_84_1 : fieldO Tryd.prog 84 1 = some 1 := by kernel_rfl
@[simp] theorem fieldsT_84_2 : fieldsT Tryd.prog 84 2 = some (2, 38) := by kernel_rfl
@[simp] theorem fieldO_84_2 : fieldO Tryd.prog 84 2 = some 2 := by kernel_rfl
@[simp] theorem placesT_84 : placesT Tryd.prog 84 = some [(0, 1), (1, 1), (2, 1)] := by kernel_rfl
@[simp] theorem arrT_84 : arrT Tryd.prog 84 = none := by kernel_rfl
@[simp] theorem eqK_84 : eqK Tryd.prog 84 = .struct [(9, 0), (9, 1), (38, 2)] := by kernel_rfl
@[simp] theorem concT_84 : concT Tryd.prog 84 = true := by kernel_rfl
@[simp] theorem nintT_84 : nintT Tryd.prog 84 = true := by kernel_rfl
@[simp] theorem szT_85 : szT Tryd.prog 85 = some 1 := by kernel_rfl
@[simp] theorem byT_85 : byT Tryd.prog 85 = some 8 := by kernel_rfl
@[simp] theorem aggT_85 : aggT Tryd.prog 85 = some false := by kernel_rfl
@[simp] theorem zeroT_85 : zeroT Tryd.prog 85 = some [.nilFunc] := by kernel_rfl
@[simp] theorem eqK_85 : eqK Tryd.prog 85 = .func := by kernel_rfl
@[simp] theorem concT_85 : concT Tryd.prog 85 = true := by kernel_rfl
@[simp] theorem nintT_85 : nintT Tryd.prog 85 = true := by kernel_rfl
@[simp] theorem szT_86 : szT Tryd.prog 86 = some 1 := by kernel_rfl
@[simp] theorem byT_86 : byT Tryd.prog 86 = some 8 := by kernel_rfl
@[simp] theorem aggT_86 : aggT Tryd.prog 86 = some false := by kernel_rfl
@[simp] theorem zeroT_86 : zeroT Tryd.prog 86 = some [.nilptr] := by kernel_rfl
@[simp] theorem eqK_86 : eqK Tryd.prog 86 = .pointer := by kernel_rfl
@[simp] theorem concT_86 : concT Tryd.prog 86 = true := by kernel_rfl
@[simp] theorem nintT_86 : nintT Tryd.prog 86 = true := by kernel_rfl
@[simp] theorem szT_87 : szT Tryd.prog 87 = some 24 := by kernel_rfl
@[simp] theorem byT_87 : byT Tryd.prog 87 = some 24 := by kernel_rfl
@[simp] theorem aggT_87 : aggT Tryd.prog 87 = some true := by kernel_rfl
@[simp] theorem zeroT_87 : zeroT Tryd.prog 87 = some [.int .u8 0, .int .u8 0, .int .u8 0, .int .u8 0, .int .u8 0, .int .u8 0, .int .u8 0, .int .u8 0, .int .u8 0, .int .u8 0, .int .u8 0, .int .u8 0, .int .u8 0, .int .u8 0, .int .u8 0, .int .u8 0, .int .u8 0, .int .u8 0, .int .u8 0, .int .u8 0, .int .u8 0, .int .u8 0, .int .u8 0, .int .u8 0] := by kernel_rfl
@[simp] theorem arrT_87 : arrT Tryd.prog 87 = some (24, 5) := by kernel_rfl
@[simp] theorem eqK_87 : eqK Tryd.prog 87 = .array 24 5 1 := by kernel_rfl
@[simp] theorem lenK_87 : lenK Tryd.prog 87 = .arr 24 := by kernel_rfl
@[simp] theorem eqG_87 : Program.eqGuardType Tryd.prog (Program.depth Tryd.prog) 87 = false := by kernel_rfl
@[simp] theorem concT_87 : concT Tryd.prog 87 = true := by kernel_rfl
@[simp] theorem nintT_87 : nintT Tryd.prog 87 = true := by kernel_rfl
@[simp] theorem szT_88 : szT Tryd.prog 88 = some 1 := by kernel_rfl
@[simp] theorem byT_88 : byT Tryd.prog 88 = some 8 := by kernel_rfl
@[simp] theorem aggT_88 : aggT Tryd.prog 88 = some false := by kernel_rfl
@[simp] theorem zeroT_88 : zeroT Tryd.prog 88 = some [.nilFunc] := by kernel_rfl
@[simp] theorem eqK_88 : eqK Tryd.prog 88 = .func := by kernel_rfl
@[simp] theorem concT_88 : concT Tryd.prog 88 = true := by kernel_rfl
@[simp] theorem nintT_88 : nintT Tryd.prog 88 = true := by kernel_rfl
@[simp] theorem szT_89 : szT Tryd.prog 89 = some 1 := by kernel_rfl
@[simp] theorem byT_89 : byT Tryd.prog 89 = some 8 := by kernel_rfl
@[simp] theorem aggT_89 : aggT Tryd.prog 89 = some false := by kernel_rfl
@[simp] theorem zeroT_89 : zeroT Tryd.prog 89 = some [.nilFunc] := by kernel_rfl
@[simp] theorem eqK_89 : eqK Tryd.prog 89 = .func := by kernel_rfl
@[simp] theorem concT_89 : concT Tryd.prog 89 = true := by kernel_rfl
@[simp] theorem nintT_89 : nintT Tryd.prog 89 = true := by kernel_rfl
@[simp] theorem szT_91 : szT Tryd.prog 91 = some 1 := by kernel_rfl
@[simp] theorem byT_91 : byT Tryd.prog 91 = some 8 := by kernel_rfl
@[simp] theorem aggT_91 : aggT Tryd.prog 91 = some false := by kernel_rfl
@[simp] theorem zeroT_91 : zeroT Tryd.prog 91 = some [.nilFunc] := by kernel_rfl
@[simp] theorem eqK_91 : eqK Tryd.prog 91 = .func := by kernel_rfl
@[simp] theorem concT_91 : concT Tryd.prog 91 = true := by kernel_rfl
@[simp] theorem nintT_91 : nintT Tryd.prog 91 = true := by kernel_rfl
@[simp] theorem szT_92 : szT Tryd.prog 92 = some 1 := by kernel_rfl
@[simp] theorem byT_92 : byT Tryd.prog 92 = some 8 := by kernel_rfl
@[simp] theorem aggT_92 : aggT Tryd.prog 92 = some false := by kernel_rfl
@[simp] theorem zeroT_92 : zeroT Tryd.prog 92 = some [.nilptr] := by kernel_rfl
@[simp] theorem eqK_92 : eqK Tryd.prog 92 = .pointer := by kernel_rfl
@[simp] theorem concT_92 : concT Tryd.prog 92 = true := by kernel_rfl
@[simp] theorem nintT_92 : nintT Tryd.prog 92 = true := by kernel_rfl
@[simp] theorem szT_93 : szT Tryd.prog 93 = some 1 := by kernel_rfl
@[simp] theorem byT_93 : byT Tryd.prog 93 = some 16 := by kernel_rfl
@[simp] theorem aggT_93 : aggT Tryd.prog 93 = some true := by kernel_rfl
@[simp] theorem zeroT_93 : zeroT Tryd.prog 93 = some [.str ⟨#[]⟩] := by kernel_rfl
@[simp] theorem fieldsT_93_0 : fieldsT Tryd.prog 93 0 = some (0, 9) := by kernel_rfl
@[simp] theorem fieldO_93_0 : fieldO Tryd.prog 93 0 = some 0 := by kernel_rfl
@[simp] theorem placesT_93 : placesT Tryd.prog 93 = some [(0, 1)] := by kernel_rfl
@[simp] theorem arrT_93 : arrT Tryd.prog 93 = none := by kernel_rfl
@[simp] theorem eqK_93 : eqK Tryd.prog 93 = .struct [(9, 0)] := by kernel_rfl
@[simp] theorem eqG_93 : Program.eqGuardType Tryd.prog (Program.depth Tryd.prog) 93 = false := by kernel_rfl
@[simp] theorem concT_93 : concT Tryd.prog 93 = true := by kernel_rfl
@[simp] theorem nintT_93 : nintT Tryd.prog 93 = true := by kernel_rfl
@[simp] theorem szT_94 : szT Tryd.prog 94 = some 1 := by kernel_rfl
@[simp] theorem byT_94 : byT Tryd.prog 94 = some 16 := by kernel_rfl
@[simp] theorem aggT_94 : aggT Tryd.prog 94 = some true := by kernel_rfl
@[simp] theorem zeroT_94 : zeroT Tryd.prog 94 = some [.str ⟨#[]⟩] := by kernel_rfl
@[simp] theorem fieldsT_94_0 : fieldsT Tryd.prog 94 0 = some (0, 9) := by kernel_rfl
@[simp] theorem fieldO_94_0 : fieldO Tryd.prog 94 0 = some 0 := by kernel_rfl
@[simp] theorem placesT_94 : placesT Tryd.prog 94 = some [(0, 1)] := by kernel_rfl
@[simp] theorem arrT_94 : arrT Tryd.prog 94 = none := by kernel_rfl
@[simp] theorem eqK_94 : eqK Tryd.prog 94 = .struct [(9, 0)] := by kernel_rfl
@[simp] theorem eqG_94 : Program.eqGuardType Tryd.prog (Program.depth Tryd.prog) 94 = false := by kernel_rfl
@[simp] theorem concT_94 : concT Tryd.prog 94 = true := by kernel_rfl
@[simp] theorem nintT_94 : nintT Tryd.prog 94 = true := by kernel_rfl
@[simp] theorem szT_95 : szT Tryd.prog 95 = some 1 := by kernel_rfl
@[simp] theorem byT_95 : byT Tryd.prog 95 = some 8 := by kernel_rfl
@[simp] theorem aggT_95 : aggT Tryd.prog 95 = some false := by kernel_rfl
@[simp] theorem zeroT_95 : zeroT Tryd.prog 95 = some [.nilptr] := by kernel_rfl
@[simp] theorem concT_95 : concT Tryd.prog 95 = true := by kernel_rfl
@[simp] theorem nintT_95 : nintT Tryd.prog 95 = true := by kernel_rfl
@[simp] theorem szT_96 : szT Tryd.prog 96 = some 1 := by kernel_rfl
@[simp] theorem byT_96 : byT Tryd.prog 96 = some 8 := by kernel_rfl
@[simp] theorem aggT_96 : aggT Tryd.prog 96 = some false := by kernel_rfl
@[simp] theorem zeroT_96 : zeroT Tryd.prog 96 = some [.nilFunc] := by kernel_rfl
@[simp] theorem eqK_96 : eqK Tryd.prog 96 = .func := by kernel_rfl
@[simp] theorem concT_96 : concT Tryd.prog 96 = true := by kernel_rfl
@[simp] theorem nintT_96 : nintT Tryd.prog 96 = true := by kernel_rfl
@[simp] theorem szT_97 : szT Tryd.prog 97 = some 1 := by kernel_rfl
@[simp] theorem byT_97 : byT Tryd.prog 97 = some 8 := by kernel_rfl
@[simp] theorem aggT_97 : aggT Tryd.prog 97 = some false := by kernel_rfl
@[simp] theorem zeroT_97 : zeroT Tryd.prog 97 = some [.nilFunc] := by kernel_rfl
@[simp] theorem eqK_97 : eqK Tryd.prog 97 = .func := by kernel_rfl
@[simp] theorem concT_97 : concT Tryd.prog 97 = true := by kernel_rfl
@[simp] theorem nintT_97 : nintT Tryd.prog 97 = true := by kernel_rfl
@[simp] theorem szT_98 : szT Tryd.prog 98 = some 1 := by kernel_rfl
@[simp] theorem byT_98 : byT Tryd.prog 98 = some 8 := by kernel_rfl
@[simp] theorem aggT_98 : aggT Tryd.prog 98 = some false := by kernel_rfl
@[simp] theorem zeroT_98 : zeroT Tryd.prog 98 = some [.nilFunc] := by kernel_rfl
@[simp] theorem eqK_98 : eqK Tryd.prog 98 = .func := by kernel_rfl
@[simp] theorem concT_98 : concT Tryd.prog 98 = true := by kernel_rfl
@[simp] theorem nintT_98 : nintT Tryd.prog 98 = true := by kernel_rfl
@[simp] theorem szT_99 : szT Tryd.prog 99 = some 20 := by kernel_rfl
@[simp] theorem byT_99 : byT Tryd.prog 99 = some 160 := by kernel_rfl
@[simp] theorem aggT_99 : aggT Tryd.prog 99 = some true := by kernel_rfl
@[simp] theorem zeroT_99 : zeroT Tryd.prog 99 = some [.int .u64 0, .int .u64 0, .int .u64 0, .int .u64 0, .int .u64 0, .int .u64 0, .int .u64 0, .int .u64 0, .int .u64 0, .int .u64 0, .int .u64 0, .int .u64 0, .int .u64 0, .int .u64 0, .int .u64 0, .int .u64 0, .int .u64 0, .int .u64 0, .int .u64 0, .int .u64 0] := by kernel_rfl
@[simp] theorem arrT_99 : arrT Tryd.prog 99 = some (20, 55) := by kernel_rfl
@[simp] theorem eqK_99 : eqK Tryd.prog 99 = .array 20 55 1 := by kernel_rfl
@[simp] theorem lenK_99 : lenK Tryd.prog 99 = .arr 20 := by kernel_rfl
@[simp] theorem eqG_99 : Program.eqGuardType Tryd.prog (Program.depth Tryd.prog) 99 = false := by kernel_rfl
@[simp] theorem concT_99 : concT Tryd.prog 99 = true := by kernel_rfl
@[simp] theorem nintT_99 : nintT Tryd.prog 99 = true := by kernel_rfl
@[simp] theorem szT_100 : szT Tryd.prog 100 = some 1 := by kernel_rfl
@[simp] theorem byT_100 : byT Tryd.prog 100 = some 4 := by kernel_rfl
@[simp] theorem aggT_100 : aggT Tryd.prog 100 = some false := by kernel_rfl
@[simp] theorem zeroT_100 : zeroT Tryd.prog 100 = some [.int .u32 0] := by kernel_rfl
@[simp] theorem eqK_100 : eqK Tryd.prog 100 = .int := by kernel_rfl
@[simp] theorem concT_100 : concT Tryd.prog 100 = true := by kernel_rfl
@[simp] theorem szT_101 : szT Tryd.prog 101 = some 65 := by kernel_rfl
@[simp] theorem byT_101 : byT Tryd.prog 101 = some 65 := by kernel_rfl
@[simp] theorem aggT_101 : aggT Tryd.prog 101 = some true := by kernel_rfl
@[simp] theorem arrT_101 : arrT Tryd.prog 101 = some (65, 5) := by kernel_rfl
@[simp] theorem eqK_101 : eqK Tryd.prog 101 = .array 65 5 1 := by kernel_rfl
@[simp] theorem lenK_101 : lenK Tryd.prog 101 = .arr 65 := by kernel_rfl
@[simp] theorem eqG_101 : Program.eqGuardType Tryd.prog (Program.depth Tryd.prog) 101 = false := by kernel_rfl
@[simp] theorem concT_101 : concT Tryd.prog 101 = true := by kernel_rfl
@[simp] theorem nintT_101 : nintT Tryd.prog 101 = true := by kernel_rfl
@[simp] theorem szT_102 : szT Tryd.prog 102 = some 1 := by kernel_rfl
@[simp] theorem byT_102 : byT Tryd.prog 102 = some 8 := by kernel_rfl
@[simp] theorem aggT_102 : aggT Tryd.prog 102 = some false := by kernel_rfl
@[simp] theorem zeroT_102 : zeroT Tryd.prog 102 = some [.nilFunc] := by kernel_rfl
@[simp] theorem eqK_102 : eqK Tryd.prog 102 = .func := by kernel_rfl
@[simp] theorem concT_102 : concT Tryd.prog 102 = true := by kernel_rfl
@[simp] theorem nintT_102 : nintT Tryd.prog 102 = true := by kernel_rfl
@[simp] theorem szT_103 : szT Tryd.prog 103 = some 256 := by kernel_rfl
@[simp] theorem byT_103 : byT Tryd.prog 103 = some 256 := by kernel_rfl
@[simp] theorem aggT_103 : aggT Tryd.prog 103 = some true := by kernel_rfl
@[simp] theorem arrT_103 : arrT Tryd.prog 103 = some (256, 5) := by kernel_rfl
@[simp] theorem eqK_103 : eqK Tryd.prog 103 = .array 256 5 1 := by kernel_rfl
@[simp] theorem lenK_103 : lenK Tryd.prog 103 = .arr 256 := by kernel_rfl
@[simp] theorem eqG_103 : Program.eqGuardType Tryd.prog (Program.depth Tryd.prog) 103 = false := by kernel_rfl
@[simp] theorem concT_103 : concT Tryd.prog 103 = true := by kernel_rfl
@[simp] theorem nintT_103 : nintT Tryd.prog 103 = true := by kernel_rfl
@[simp] theorem szT_104 : szT Tryd.prog 104 = some 2 := by kernel_rfl
@[simp] theorem byT_104 : byT Tryd.prog 104 = some 2 := by kernel_rfl
@[simp] theorem aggT_104 : aggT Tryd.prog 104 = some true := by kernel_rfl
@[simp] theorem zeroT_104 : zeroT Tryd.prog 104 = some [.int .u8 0, .int .u8 0] := by kernel_rfl
@[simp] theorem fieldsT_104_0 : fieldsT Tryd.prog 104 0 = some (0, 5) := by kernel_rfl
@[simp] theorem fieldO_104_0 : fieldO Tryd.prog 104 0 = some 0 := by kernel_rfl
@[simp] theorem fieldsT_104_1 : fieldsT Tryd.prog 104 1 = some (1, 5) := by kernel_rfl
@[simp] theorem fieldO_104_1 : fieldO Tryd.prog 104 1 = some 1 := by kernel_rfl
@[simp] theorem placesT_104 : placesT Tryd.prog 104 = some [(0, 1), (1, 1)] := by kernel_rfl
@[simp] theorem arrT_104 : arrT Tryd.prog 104 = none := by kernel_rfl
@[simp] theorem eqK_104 : eqK Tryd.prog 104 = .struct [(5, 0), (5, 1)] := by kernel_rfl
@[simp] theorem eqG_104 : Program.eqGuardType Tryd.prog (Program.depth Tryd.prog) 104 = false := by kernel_rfl
@[simp] theorem concT_104 : concT Tryd.prog 104 = true := by kernel_rfl
@[simp] theorem nintT_104 : nintT Tryd.prog 104 = true := by kernel_rfl
@[simp] theorem szT_105 : szT Tryd.prog 105 = some 2 := by kernel_rfl
@[simp] theorem byT_105 : byT Tryd.prog 105 = some 2 := by kernel_rfl
@[simp] theorem aggT_105 : aggT Tryd.prog 105 = some true := by kernel_rfl
@[simp] theorem zeroT_105 : zeroT Tryd.prog 105 = some [.int .u8 0, .int .u8 0] := by kernel_rfl
@[simp] theorem fieldsT_105_0 : fieldsT Tryd.prog 105 0 = some (0, 5) := by kernel_rfl
@[simp] theorem fieldO_105_0 : fieldO Tryd.prog 105 0 = some 0 := by kernel_rfl
@[simp] theorem fieldsT_105_1 : fieldsT Tryd.prog 105 1 = some (1, 5) := by kernel_rfl
@[simp] theorem fieldO_105_1 : fieldO Tryd.prog 105 1 = some 1 := by kernel_rfl
@[simp] theorem placesT_105 : placesT Tryd.prog 105 = some [(0, 1), (1, 1)] := by kernel_rfl
@[simp] theorem arrT_105 : arrT Tryd.prog 105 = none := by kernel_rfl
@[simp] theorem eqK_105 : eqK Tryd.prog 105 = .struct [(5, 0), (5, 1)] := by kernel_rfl
@[simp] theorem eqG_105 : Program.eqGuardType Tryd.prog (Program.depth Tryd.prog) 105 = false := by kernel_rfl
@[simp] theorem concT_105 : concT Tryd.prog 105 = true := by kernel_rfl
@[simp] theorem nintT_105 : nintT Tryd.prog 105 = true := by kernel_rfl
@[simp] theorem szT_106 : szT Tryd.prog 106 = some 32 := by kernel_rfl
@[simp] theorem byT_106 : byT Tryd.prog 106 = some 32 := by kernel_rfl
@[simp] theorem aggT_106 : aggT Tryd.prog 106 = some true := by kernel_rfl
@[simp] theorem zeroT_106 : zeroT Tryd.prog 106 = some [.int .u8 0, .int .u8 0, .int .u8 0, .int .u8 0, .int .u8 0, .int .u8 0, .int .u8 0, .int .u8 0, .int .u8 0, .int .u8 0, .int .u8 0, .int .u8 0, .int .u8 0, .int .u8 0, .int .u8 0, .int .u8 0, .int .u8 0, .int .u8 0, .int .u8 0, .int .u8 0, .int .u8 0, .int .u8 0, .int .u8 0, .int .u8 0, .int .u8 0, .int .u8 0, .int .u8 0, .int .u8 0, .int .u8 0, .int .u8 0, .int .u8 0, .int .u8 0] := by kernel_rfl
@[simp] theorem arrT_106 : arrT Tryd.prog 106 = some (16, 105) := by kernel_rfl
@[simp] theorem eqK_106 : eqK Tryd.prog 106 = .array 16 105 2 := by kernel_rfl
@[simp] theorem lenK_106 : lenK Tryd.prog 106 = .arr 16 := by kernel_rfl
@[simp] theorem eqG_106 : Program.eqGuardType Tryd.prog (Program.depth Tryd.prog) 106 = false := by kernel_rfl
@[simp] theorem concT_106 : concT Tryd.prog 106 = true := by kernel_rfl
@[simp] theorem nintT_106 : nintT Tryd.prog 106 = true := by kernel_rfl
@[simp] theorem szT_108 : szT Tryd.prog 108 = some 1 := by kernel_rfl
@[simp] theorem byT_108 : byT Tryd.prog 108 = some 8 := by kernel_rfl
@[simp] theorem aggT_108 : aggT Tryd.prog 108 = some false := by kernel_rfl
@[simp] theorem zeroT_108 : zeroT Tryd.prog 108 = some [.nilFunc] := by kernel_rfl
@[simp] theorem eqK_108 : eqK Tryd.prog 108 = .func := by kernel_rfl
@[simp] theorem concT_108 : concT Tryd.prog 108 = true := by kernel_rfl
@[simp] theorem nintT_108 : nintT Tryd.prog 108 = true := by kernel_rfl
@[simp] theorem szT_109 : szT Tryd.prog 109 = some 1 := by kernel_rfl
@[simp] theorem byT_109 : byT Tryd.prog 109 = some 8 := by kernel_rfl
@[simp] theorem aggT_109 : aggT Tryd.prog 109 = some false := by kernel_rfl
@[simp] theorem zeroT_109 : zeroT Tryd.prog 109 = some [.nilFunc] := by kernel_rfl
@[simp] theorem eqK_109 : eqK Tryd.prog 109 = .func := by kernel_rfl
@[simp] theorem concT_109 : concT Tryd.prog 109 = true := by kernel_rfl
@[simp] theorem nintT_109 : nintT Tryd.prog 109 = true := by kernel_rfl
@[simp] theorem szT_110 : szT Tryd.prog 110 = some 32 := by kernel_rfl
@[simp] theorem byT_110 : byT Tryd.prog 110 = some 32 := by kernel_rfl
@[simp] theorem aggT_110 : aggT Tryd.prog 110 = some true := by kernel_rfl
@[simp] theorem zeroT_110 : zeroT Tryd.prog 110 = some [.int .u8 0, .int .u8 0, .int .u8 0, .int .u8 0, .int .u8 0, .int .u8 0, .int .u8 0, .int .u8 0, .int .u8 0, .int .u8 0, .int .u8 0, .int .u8 0, .int .u8 0, .int .u8 0, .int .u8 0, .int .u8 0, .int .u8 0, .int .u8 0, .int .u8 0, .int .u8 0, .int .u8 0, .int .u8 0, .int .u8 0, .int .u8 0, .int .u8 0, .int .u8 0, .int .u8 0, .int .u8 0, .int .u8 0, .int .u8 0, .int .u8 0, .int .u8 0] := by kernel_rfl
@[simp] theorem arrT_110 : arrT Tryd.prog 110 = some (32, 5) := by kernel_rfl
@[simp] theorem eqK_110 : eqK Tryd.prog 110 = .array 32 5 1 := by kernel_rfl
@[simp] theorem lenK_110 : lenK Tryd.prog 110 = .arr 32 := by kernel_rfl
@[simp] theorem eqG_110 : Program.eqGuardType Tryd.prog (Program.depth Tryd.prog) 110 = false := by kernel_rfl
@[simp] theorem concT_110 : concT Tryd.prog 110 = true := by kernel_rfl
@[simp] theorem nintT_110 : nintT Tryd.prog 110 = true := by kernel_rfl
@[simp] theorem szT_111 : szT Tryd.prog 111 = some 64 := by kernel_rfl
@[simp] theorem byT_111 : byT Tryd.prog 111 = some 64 := by kernel_rfl
@[simp] theorem aggT_111 : aggT Tryd.prog 111 = some true := by kernel_rfl
@[simp] theorem zeroT_111 : zeroT Tryd.prog 111 = some [.int .u8 0, .int .u8 0, .int .u8 0, .int .u8 0, .int .u8 0, .int .u8 0, .int .u8 0, .int .u8 0, .int .u8 0, .int .u8 0, .int .u8 0, .int .u8 0, .int .u8 0, .int .u8 0, .int .u8 0, .int .u8 0, .int .u8 0, .int .u8 0, .int .u8 0, .int .u8 0, .int .u8 0, .int .u8 0, .int .u8 0, .int .u8 0, .int .u8 0, .int .u8 0, .int .u8 0, .int .u8 0, .int .u8 0, .int .u8 0, .int .u8 0, .int .u8 0, .int .u8 0, .int .u8 0, .int .u8 0, .int .u8 0, .int .u8 0, .int .u8 0, .int .u8 0, .int .u8 0, .int .u8 0, .int .u8 0, .int .u8 0, .int .u8 0, .int .u8 0, .int .u8 0, .int .u8 0, .int .u8 0, .int .u8 0, .int .u8 0, .int .u8 0, .int .u8 0, .int .u8 0, .int .u8 0, .int .u8 0, .int .u8 0, .int .u8 0, .int .u8 0, .int .u8 0, .int .u8 0, .int .u8 0, .int .u8 0, .int .u8 0, .int .u8 0] := by kernel_rfl
@[simp] theorem arrT_111 : arrT Tryd.prog 111 = some (64, 5) := by kernel_rfl
@[simp] theorem eqK_111 : eqK Tryd.prog 111 = .array 64 5 1 := by kernel_rfl
@[simp] theorem lenK_111 : lenK Tryd.prog 111 = .arr 64 := by kernel_rfl
@[simp] theorem eqG_111 : Program.eqGuardType Tryd.prog (Program.depth Tryd.prog) 111 = false := by kernel_rfl
@[simp] theorem concT_111 : concT Tryd.prog 111 = true := by kernel_rfl
@[simp] theorem nintT_111 : nintT Tryd.prog 111 = true := by kernel_rfl
@[simp] theorem szT_112 : szT Tryd.prog 112 = some 4 := by kernel_rfl
@[simp] theorem byT_112 : byT Tryd.prog 112 = some 40 := by kernel_rfl
@[simp] theorem aggT_112 : aggT Tryd.prog 112 = some true := by kernel_rfl
@[simp] theorem zeroT_112 : zeroT Tryd.prog 112 = some [.nilptr, .nilptr, .nilptr, .str ⟨#[]⟩] := by kernel_rfl
@[simp] theorem fieldsT_112_0 : fieldsT Tryd.prog 112 0 = some (0, 17) := by kernel_rfl
@[simp] theorem fieldO_112_0 : fieldO Tryd.prog 112 0 = some 0 := by kernel_rfl
@[simp] theorem fieldsT_112_1 : fieldsT Tryd.prog 112 1 = some (1, 17) := by kernel_rfl
@[simp] theorem fieldO_112_1 : fieldO Tryd.prog 112 1 = some 1 := by kernel_rfl
@[simp] theorem fieldsT_112_2 : fieldsT Tryd.prog 112 2 = some (2, 17) := by kernel_rfl
@[simp] theorem fieldO_112_2 : fieldO Tryd.prog 112 2 = some 2 := by kernel_rfl
@[simp] theorem fieldsT_112_3 : fieldsT Tryd.prog 112 3 = some (3, 9) := by kernel_rfl
@[simp] theorem fieldO_112_3 : fieldO Tryd.prog 112 3 = some 3 := by kernel_rfl
@[simp] theorem placesT_112 : placesT Tryd.prog 112 = some [(0, 1), (1, 1), (2, 1), (3, 1)] := by kernel_rfl
@[simp] theorem arrT_112 : arrT Tryd.prog 112 = none := by kernel_rfl
@[simp] theorem eqG_112 : Program.eqGuardType Tryd.prog (Program.depth Tryd.prog) 112 = false := by kernel_rfl
@[simp] theorem concT_112 : concT Tryd.prog 112 = true := by kernel_rfl
@[simp] theorem nintT_112 : nintT Tryd.prog 112 = true := by kernel_rfl
@[simp] theorem szT_114 : szT Tryd.prog 114 = some 0 := by kernel_rfl
@[simp] theorem byT_114 : byT Tryd.prog 114 = some 0 := by kernel_rfl
@[simp] theorem aggT_114 : aggT Tryd.prog 114 = some true := by kernel_rfl
@[simp] theorem zeroT_114 : zeroT Tryd.prog 114 = some [] := by kernel_rfl
@[simp] theorem arrT_114 : arrT Tryd.prog 114 = some (0, 16) := by kernel_rfl
@[simp] theorem eqK_114 : eqK Tryd.prog 114 = .array 0 16 1 := by kernel_rfl
@[simp] theorem lenK_114 : lenK Tryd.prog 114 = .arr 0 := by kernel_rfl
@[simp] theorem eqG_114 : Program.eqGuardType Tryd.prog (Program.depth Tryd.prog) 114 = false := by kernel_rfl
@[simp] theorem concT_114 : concT Tryd.prog 114 = true := by kernel_rfl
@[simp] theorem nintT_114 : nintT Tryd.prog 114 = true := by kernel_rfl
@[simp] theorem szT_115 : szT Tryd.prog 115 = some 0 := by kernel_rfl
@[simp] theorem byT_115 : byT Tryd.prog 115 = some 0 := by kernel_rfl
@[simp] theorem aggT_115 : aggT Tryd.prog 115 = some true := by kernel_rfl
@[simp] theorem zeroT_115 : zeroT Tryd.prog 115 = some [] := by kernel_rfl
@[simp] theorem fieldsT_115_0 : fieldsT Tryd.prog 115 0 = some (0, 114) := by kernel_rfl
@[simp] theorem placesT_115 : placesT Tryd.prog 115 = some [(0, 0)] := by kernel_rfl
@[simp] theorem arrT_115 : arrT Tryd.prog 115 = none := by kernel_rfl
@[simp] theorem eqG_115 : Program.eqGuardType Tryd.prog (Program.depth Tryd.prog) 115 = false := by kernel_rfl
@[simp] theorem concT_115 : concT Tryd.prog 115 = true := by kernel_rfl
@[simp] theorem nintT_115 : nintT Tryd.prog 115 = true := by kernel_rfl
@[simp] theorem szT_117 : szT Tryd.prog 117 = some 1 := by kernel_rfl
@[simp] theorem byT_117 : byT Tryd.prog 117 = some 8 := by kernel_rfl
@[simp] theorem aggT_117 : aggT Tryd.prog 117 = some false := by kernel_rfl
@[simp] theorem zeroT_117 : zeroT Tryd.prog 117 = some [.nilFunc] := by kernel_rfl
@[simp] theorem eqK_117 : eqK Tryd.prog 117 = .func := by kernel_rfl
@[simp] theorem concT_117 : concT Tryd.prog 117 = true := by kernel_rfl
@[simp] theorem nintT_117 : nintT Tryd.prog 117 = true := by kernel_rfl
@[simp] theorem szT_120 : szT Tryd.prog 120 = some 1 := by kernel_rfl
@[simp] theorem byT_120 : byT Tryd.prog 120 = some 8 := by kernel_rfl
@[simp] theorem aggT_120 : aggT Tryd.prog 120 = some false := by kernel_rfl
@[simp] theorem zeroT_120 : zeroT Tryd.prog 120 = some [.nilFunc] := by kernel_rfl
@[simp] theorem eqK_120 : eqK Tryd.prog 120 = .func := by kernel_rfl
@[simp] theorem concT_120 : concT Tryd.prog 120 = true := by kernel_rfl
@[simp] theorem nintT_120 : nintT Tryd.prog 120 = true := by kernel_rfl
@[simp] theorem szT_123 : szT Tryd.prog 123 = some 11 := by kernel_rfl
@[simp] theorem byT_123 : byT Tryd.prog 123 = some 48 := by kernel_rfl
@[simp] theorem aggT_123 : aggT Tryd.prog 123 = some true := by kernel_rfl
@[simp] theorem zeroT_123 : zeroT Tryd.prog 123 = some [.int .u64 0, .int .u64 0, .int .u32 0, .int .u8 0, .int .u8 0, .int .u8 0, .int .u8 0, .nilFunc, .nilptr, .int .i32 0, .int .i32 0] := by kernel_rfl
@[simp] theorem fieldsT_123_0 : fieldsT Tryd.prog 123 0 = some (0, 12) := by kernel_rfl
@[simp] theorem fieldO_123_0 : fieldO Tryd.prog 123 0 = some 0 := by kernel_rfl
@[simp] theorem fieldsT_123_1 : fieldsT Tryd.prog 123 1 = some (1, 12) := by kernel_rfl
@[simp] theorem fieldO_123_1 : fieldO Tryd.prog 123 1 = some 1 := by kernel_rfl
@[simp] theorem fieldsT_123_2 : fieldsT Tryd.prog 123 2 = some (2, 100) := by kernel_rfl
@[simp] theorem fieldO_123_2 : fieldO Tryd.prog 123 2 = some 2 := by kernel_rfl
@[simp] theorem fieldsT_123_3 : fieldsT Tryd.prog 123 3 = some (3, 118) := by kernel_rfl
@[simp] theorem fieldO_123_3 : fieldO Tryd.prog 123 3 = some 3 := by kernel_rfl
@[simp] theorem fieldsT_123_4 : fieldsT Tryd.prog 123 4 = some (4, 5) := by kernel_rfl
@[simp] theorem fieldO_123_4 : fieldO Tryd.prog 123 4 = some 4 := by kernel_rfl
@[simp] theorem fieldsT_123_5 : fieldsT Tryd.prog 123 5 = some (5, 5) := by kernel_rfl
@[simp] theorem fieldO_123_5 : fieldO Tryd.prog 123 5 = some 5 := by kernel_rfl
@[simp] theorem fieldsT_123_6 : fieldsT Tryd.prog 123 6 = some (6, 119) := by kernel_rfl
@[simp] theorem fieldO_123_6 : fieldO Tryd.prog 123 6 = some 6 := by kernel_rfl
@[simp] theorem fieldsT_123_7 : fieldsT Tryd.prog 123 7 = some (7, 120) := by kernel_rfl
@[simp] theorem fieldO_123_7 : fieldO Tryd.prog 123 7 = some 7 := by kernel_rfl
@[simp] theorem fieldsT_123_8 : fieldsT Tryd.prog 123 8 = some (8, 86) := by kernel_rfl
@[simp] theorem fieldO_123_8 : fieldO Tryd.prog 123 8 = some 8 := by kernel_rfl
@[simp] theorem fieldsT_123_9 : fieldsT Tryd.prog 123 9 = some (9, 121) := by kernel_rfl
@[simp] theorem fieldO_123_9 : fieldO Tryd.prog 123 9 = some 9 := by kernel_rfl
@[simp] theorem fieldsT_123_10 : fieldsT Tryd.prog 123 10 = some (10, 122) := by kernel_rfl
@[simp] theorem fieldO_123_10 : fieldO Tryd.prog 123 10 = some 10 := by kernel_rfl
@[simp] theorem placesT_123 : placesT Tryd.prog 123 = some [(0, 1), (1, 1), (2, 1), (3, 1), (4, 1), (5, 1), (6, 1), (7, 1), (8, 1), (9, 1), (10, 1)] := by kernel_rfl
@[simp] theorem arrT_123 : arrT Tryd.prog 123 = none := by kernel_rfl
@[simp] theorem eqG_123 : Program.eqGuardType Tryd.prog (Program.depth Tryd.prog) 123 = false := by kernel_rfl
@[simp] theorem concT_123 : concT Tryd.prog 123 = true := by kernel_rfl
@[simp] theorem nintT_123 : nintT Tryd.prog 123 = true := by kernel_rfl
@[simp] theorem cvK_2_55 : cvK Tryd.prog 2 55 = .int .u64 := by kernel_rfl
@[simp] theorem cvK_3_5 : cvK Tryd.prog 3 5 = .int .u8 := by kernel_rfl
@[simp] theorem cvK_3_55 : cvK Tryd.prog 3 55 = .int .u64 := by kernel_rfl
@[simp] theorem cvK_3_64 : cvK Tryd.prog 3 64 = .int .u64 := by kernel_rfl
@[simp] theorem cvK_5_3 : cvK Tryd.prog 5 3 = .int .i64 := by kernel_rfl
@[simp] theorem cvK_5_21 : cvK Tryd.prog 5 21 = .int .i32 := by kernel_rfl
@[simp] theorem cvK_5_55 : cvK Tryd.prog 5 55 = .int .u64 := by kernel_rfl
@[simp] theorem cvK_5_100 : cvK Tryd.prog 5 100 = .int .u32 := by kernel_rfl
@[simp] theorem cvK_43_9 : cvK Tryd.prog 43 9 = .bytes := by kernel_rfl
@[simp] theorem cvK_55_2 : cvK Tryd.prog 55 2 = .int .i64 := by kernel_rfl
@[simp] theorem cvK_55_5 : cvK Tryd.prog 55 5 = .int .u8 := by kernel_rfl
@[simp] theorem cvK_55_100 : cvK Tryd.prog 55 100 = .int .u32 := by kernel_rfl
@[simp] theorem cvK_64_100 : cvK Tryd.prog 64 100 = .int .u32 := by kernel_rfl
@[simp] theorem cvK_100_5 : cvK Tryd.prog 100 5 = .int .u8 := by kernel_rfl
@[simp] theorem callT_3 : callT Tryd.prog 3 = true := by kernel_rfl
@[simp] theorem callT_4 : callT Tryd.prog 4 = true := by kernel_rfl
@[simp] theorem callT_5 : callT Tryd.prog 5 = true := by kernel_rfl
@[simp] theorem callT_6 : callT Tryd.prog 6 = true := by kernel_rfl
@[simp] theorem callT_7 : callT Tryd.prog 7 = true := by kernel_rfl
@[simp] theorem callT_8 : callT Tryd.prog 8 = true := by kernel_rfl
@[simp] theorem callT_9 : callT Tryd.prog 9 = true := by kernel_rfl
@[simp] theorem callT_10 : callT Tryd.prog 10 = true := by kernel_rfl
@[simp] theorem callT_11 : callT Tryd.prog 11 = true := by kernel_rfl
@[simp] theorem callT_12 : callT Tryd.prog 12 = true := by kernel_rfl
@[simp] theorem callT_13 : callT Tryd.prog 13 = true := by kernel_rfl
@[simp] theorem callT_14 : callT Tryd.prog 14 = true := by kernel_rfl
@[simp] theorem callT_15 : callT Tryd.prog 15 = true := by kernel_rfl
@[simp] theorem callT_16 : callT Tryd.prog 16 = true := by kernel_rfl
@[simp] theorem callT_17 : callT Tryd.prog 17 = true := by kernel_rfl
@[simp] theorem callT_18 : callT Tryd.prog 18 = true := by kernel_rfl
@[simp] theorem callT_19 : callT Tryd.prog 19 = true := by kernel_rfl
@[simp] theorem callT_20 : callT Tryd.prog 20 = true := by kernel_rfl
@[simp] theorem callT_22 : callT Tryd.prog 22 = true := by kernel_rfl
@[simp] theorem callT_23 : callT Tryd.prog 23 = true := by kernel_rfl
@[simp] theorem callT_24 : callT Tryd.prog 24 = true := by kernel_rfl
@[simp] theorem callT_25 : callT Tryd.prog 25 = true := by kernel_rfl
@[simp] theorem callT_26 : callT Tryd.prog 26 = true := by kernel_rfl
@[simp] theorem callT_27 : callT Tryd.prog 27 = true := by kernel_rfl
@[simp] theorem callT_28 : callT Tryd.prog 28 = true := by kernel_rfl
@[simp] theorem callT_29 : callT Tryd.prog 29 = true := by kernel_rfl
@[simp] theorem callT_30 : callT Tryd.prog 30 = true := by kernel_rfl
@[simp] theorem callT_31 : callT Tryd.prog 31 = true := by kernel_rfl
@[simp] theorem callT_33 : callT Tryd.prog 33 = true := by kernel_rfl
@[simp] theorem callT_34 : callT Tryd.prog 34 = true := by kernel_rfl
@[simp] theorem callT_35 : callT Tryd.prog 35 = true := by kernel_rfl
@[simp] theorem callT_36 : callT Tryd.prog 36 = true := by kernel_rfl
@[simp] theorem callT_37 : callT Tryd.prog 37 = true := by kernel_rfl
@[simp] theorem callT_38 : callT Tryd.prog 38 = true := by kernel_rfl
@[simp] theorem callT_39 : callT Tryd.prog 39 = true := by kernel_rfl
@[simp] theorem callT_42 : callT Tryd.prog 42 = true := by kernel_rfl
@[simp] theorem callT_43 : callT Tryd.prog 43 = true := by kernel_rfl
@[simp] theorem callT_44 : callT Tryd.prog 44 = true := by kernel_rfl
@[simp] theorem callT_50 : callT Tryd.prog 50 = true := by kernel_rfl
@[simp] theorem callT_51 : callT Tryd.prog 51 = true := by kernel_rfl
@[simp] theorem callT_52 : callT Tryd.prog 52 = true := by kernel_rfl
@[simp] theorem callT_57 : callT Tryd.prog 57 = true := by kernel_rfl
@[simp] theorem callT_65 : callT Tryd.prog 65 = true := by kernel_rfl
@[simp] theorem callT_68 : callT Tryd.prog 68 = true := by kernel_rfl
@[simp] theorem callT_71 : callT Tryd.prog 71 = true := by kernel_rfl
@[simp] theorem callT_72 : callT Tryd.prog 72 = true := by kernel_rfl
@[simp] theorem callT_103 : callT Tryd.prog 103 = true := by kernel_rfl
end Go.Proofs.YtdhpdaogakignaaDoor.V
