/- Known calls of the head. Made by a program (mkent.py). -/
import Derived.Test.YtnfcjgfaecihbaaGreatDoorEvTb
import Derived.Test.YtnfcjgfaecihbaaGreatDoorProg
set_option linter.unusedVariables false
set_option linter.unusedSimpArgs false
set_option linter.unusedSectionVars false
set_option linter.constructorNameAsVariable false
set_option maxRecDepth 1000000
namespace Go.Ev
open Go
noncomputable abbrev tT : Value := .bool true
noncomputable abbrev tF : Value := .bool false
noncomputable abbrev I (n : Nat) : Value := .int .i64 (.ofNat n)
noncomputable abbrev N0 : Value := .slice none 0 0
noncomputable def S (l : List Nat) : Value := .string ⟨⟨l.map UInt8.ofNat⟩⟩
noncomputable abbrev Ag (l : List Value) : Value := .agg ⟨l⟩
noncomputable abbrev Tu (l : List Value) : Value := .tuple ⟨l⟩
noncomputable abbrev Sl (b o n m : Nat) : Value := .slice (some ⟨b, o, none⟩) n m
noncomputable abbrev Pt (b o : Nat) : Value := .pointer (some ⟨b, o, none⟩)
noncomputable abbrev rp (n : Nat) (v : Value) : List Value := List.replicate n v
noncomputable abbrev PG : Program := Proofs.Tryz.prog
noncomputable def gl : List (Nat × Ob) := [(3, (.ro [(.int .u64 (.ofNat 1)), (.int .u64 (.ofNat 10)), (.int .u64 (.ofNat 100)), (.int .u64 (.ofNat 1000)), (.int .u64 (.ofNat 10000)), (.int .u64 (.ofNat 100000)), (.int .u64 (.ofNat 1000000)), (.int .u64 (.ofNat 10000000)), (.int .u64 (.ofNat 100000000)), (.int .u64 (.ofNat 1000000000)), (.int .u64 (.ofNat 10000000000)), (.int .u64 (.ofNat 100000000000)), (.int .u64 (.ofNat 1000000000000)), (.int .u64 (.ofNat 10000000000000)), (.int .u64 (.ofNat 100000000000000)), (.int .u64 (.ofNat 1000000000000000)), (.int .u64 (.ofNat 10000000000000000)), (.int .u64 (.ofNat 100000000000000000)), (.int .u64 (.ofNat 1000000000000000000)), (.int .u64 (.ofNat 10000000000000000000))]))]
noncomputable abbrev G0 : Heap := heapOf gBase gl
noncomputable def e0 : En := ⟨[], [], (Ag (rp 9 (I 0) ++ [(I 1), (I 1)] ++ rp 21 (I 0) ++ [(I 1), (I 7), (I 6), (I 2), (I 0), (I 0), (I 0), (I 0), (I 9), (I 9), (I 0), (I 9), (I 9), (I 9), (I 9), (I 0)] ++ rp 10 (I 4) ++ [(I 9), (I 9), (I 8), (I 9), (I 8), (I 0), (I 0)] ++ rp 26 (I 3) ++ [(I 9), (I 0), (I 9), (I 0), (I 5), (I 0)] ++ rp 26 (I 3) ++ [(I 9), (I 0), (I 9)] ++ rp 130 (I 0)))⟩
theorem h0 : Entry PG G0 341 e0.fr e0.a e0.v := Entry.of (n := 179) (m := 100000) orcT_e (by kernel_rfl) (by kernel_rfl)
noncomputable def t0 : Tab := addE .e 341 e0
theorem oe0 : OrcOK (Globs G0) PG (orcT t0) := orcT_e.add h0
noncomputable def e1 : En := ⟨[], [(I 1), (S [109, 97, 110, 97])], (I 1)⟩
theorem h1 : Entry PG G0 410 e1.fr e1.a e1.v := Entry.of (n := 255) (m := 100000) oe0 (by kernel_rfl) (by kernel_rfl)
noncomputable def t1 : Tab := addE t0 410 e1
theorem oe1 : OrcOK (Globs G0) PG (orcT t1) := oe0.add h1
noncomputable def e2 : En := ⟨[], [(I 1), (S [97, 110, 97])], (I 1)⟩
theorem h2 : Entry PG G0 410 e2.fr e2.a e2.v := Entry.of (n := 266) (m := 100000) oe1 (by kernel_rfl) (by kernel_rfl)
noncomputable def t2 : Tab := addE t1 410 e2
theorem oe2 : OrcOK (Globs G0) PG (orcT t2) := oe1.add h2
noncomputable def e3 : En := ⟨[], [(I 1), (S [110, 97])], (I 1)⟩
theorem h3 : Entry PG G0 410 e3.fr e3.a e3.v := Entry.of (n := 277) (m := 100000) oe2 (by kernel_rfl) (by kernel_rfl)
noncomputable def t3 : Tab := addE t2 410 e3
theorem oe3 : OrcOK (Globs G0) PG (orcT t3) := oe2.add h3
noncomputable def e4 : En := ⟨[], [(I 1), (S [97])], (I 1)⟩
theorem h4 : Entry PG G0 410 e4.fr e4.a e4.v := Entry.of (n := 288) (m := 100000) oe3 (by kernel_rfl) (by kernel_rfl)
noncomputable def t4 : Tab := addE t3 410 e4
theorem oe4 : OrcOK (Globs G0) PG (orcT t4) := oe3.add h4
noncomputable def e5 : En := ⟨[], [(I 1), (S [])], (I 0)⟩
theorem h5 : Entry PG G0 410 e5.fr e5.a e5.v := Entry.of (n := 299) (m := 100000) oe4 (by kernel_rfl) (by kernel_rfl)
noncomputable def t5 : Tab := addE t4 410 e5
theorem oe5 : OrcOK (Globs G0) PG (orcT t5) := oe4.add h5
noncomputable def b33 : Nat × Ob := (33, (.cells [(S [109, 97, 110, 97])] 1 0 9))
noncomputable def e6 : En := ⟨[b33], [(Ag [(I 1), (Sl 33 0 1 1)])], tT⟩
theorem h6 : Entry PG G0 106 e6.fr e6.a e6.v := Entry.of (n := 248) (m := 100000) oe5 (by kernel_rfl) (by kernel_rfl)
noncomputable def t6 : Tab := addE t5 106 e6
theorem oe6 : OrcOK (Globs G0) PG (orcT t6) := oe5.add h6
noncomputable def e7 : En := ⟨[], [(I 1), (S [97, 116, 105])], (I 1)⟩
theorem h7 : Entry PG G0 410 e7.fr e7.a e7.v := Entry.of (n := 347) (m := 100000) oe6 (by kernel_rfl) (by kernel_rfl)
noncomputable def t7 : Tab := addE t6 410 e7
theorem oe7 : OrcOK (Globs G0) PG (orcT t7) := oe6.add h7
noncomputable def e8 : En := ⟨[], [(I 1), (S [116, 105])], (I 1)⟩
theorem h8 : Entry PG G0 410 e8.fr e8.a e8.v := Entry.of (n := 358) (m := 100000) oe7 (by kernel_rfl) (by kernel_rfl)
noncomputable def t8 : Tab := addE t7 410 e8
theorem oe8 : OrcOK (Globs G0) PG (orcT t8) := oe7.add h8
noncomputable def e9 : En := ⟨[], [(I 1), (S [105])], (I 1)⟩
theorem h9 : Entry PG G0 410 e9.fr e9.a e9.v := Entry.of (n := 369) (m := 100000) oe8 (by kernel_rfl) (by kernel_rfl)
noncomputable def t9 : Tab := addE t8 410 e9
theorem oe9 : OrcOK (Globs G0) PG (orcT t9) := oe8.add h9
noncomputable def b36 : Nat × Ob := (36, (.cells [(S [107, 97, 116, 105])] 1 0 9))
noncomputable def e10 : En := ⟨[b36], [(Ag [(I 1), (Sl 36 0 1 1)])], tT⟩
theorem h10 : Entry PG G0 106 e10.fr e10.a e10.v := Entry.of (n := 329) (m := 100000) oe9 (by kernel_rfl) (by kernel_rfl)
noncomputable def t10 : Tab := addE t9 106 e10
theorem oe10 : OrcOK (Globs G0) PG (orcT t10) := oe9.add h10
noncomputable def e11 : En := ⟨[], [(S [97, 98, 99, 100, 101, 102, 103, 104, 105, 106, 107, 108, 109, 110, 111, 112, 113, 114, 115, 116, 117, 118, 119, 120, 121, 122])], (Tu [(Ag (rp 97 tF ++ rp 26 tT ++ rp 133 tF)), tT])⟩
theorem h11 : Entry PG G0 318 e11.fr e11.a e11.v := Entry.of (n := 385) (m := 100000) oe10 (by kernel_rfl) (by kernel_rfl)
noncomputable def t11 : Tab := addE t10 318 e11
theorem oe11 : OrcOK (Globs G0) PG (orcT t11) := oe10.add h11
noncomputable def b147 : Nat × Ob := (147, (.cells [(I 1), (S [109]), (S [109]), (I 0), (I 1), (S [97]), (S [97]), (I 0), (I 1), (S [110]), (S [110]), (I 0), (I 1), (S [107]), (S [107]), (I 0), (I 1), (S [116]), (S [116]), (I 0), (I 1), (S [105]), (S [105]), (I 0)] 24 5 65))
noncomputable def e12 : En := ⟨[b147], [(Ag [(Sl 147 0 6 1180591620717411303430), N0, N0, (I 5), (I 0), (I 0)])], tT⟩
theorem h12 : Entry PG G0 102 e12.fr e12.a e12.v := Entry.of (n := 347) (m := 100000) oe11 (by kernel_rfl) (by kernel_rfl)
noncomputable def t12 : Tab := addE t11 102 e12
theorem oe12 : OrcOK (Globs G0) PG (orcT t12) := oe11.add h12
noncomputable def e13 : En := ⟨[], [(S [69, 85, 82])], tT⟩
theorem h13 : Entry PG G0 206 e13.fr e13.a e13.v := Entry.of (n := 347) (m := 100000) oe12 (by kernel_rfl) (by kernel_rfl)
noncomputable def t13 : Tab := addE t12 206 e13
theorem oe13 : OrcOK (Globs G0) PG (orcT t13) := oe12.add h13
noncomputable def b150 : Nat × Ob := (150, (.cells [(I 1), (S []), (I 0), (I 0), N0, (S [97, 108, 108]), tF] 7 0 77))
noncomputable def e14 : En := ⟨[b150], [(Ag [N0, (Sl 150 0 1 1)])], tT⟩
theorem h14 : Entry PG G0 104 e14.fr e14.a e14.v := Entry.of (n := 348) (m := 100000) oe13 (by kernel_rfl) (by kernel_rfl)
noncomputable def t14 : Tab := addE t13 104 e14
theorem oe14 : OrcOK (Globs G0) PG (orcT t14) := oe13.add h14
noncomputable def e15 : En := ⟨[b150], [(Ag [N0, (Sl 150 0 1 1)]), N0], (Tu [(I 0), (I 0)])⟩
theorem h15 : Entry PG G0 51 e15.fr e15.a e15.v := Entry.of (n := 498) (m := 100000) oe14 (by kernel_rfl) (by kernel_rfl)
noncomputable def t15 : Tab := addE t14 51 e15
theorem oe15 : OrcOK (Globs G0) PG (orcT t15) := oe14.add h15
noncomputable def b151 : Nat × Ob := (151, (.cells [(S [103]), N0, (S [69, 85, 82]), (I 1), N0] 5 0 81))
noncomputable def e16 : En := ⟨[b150, b151], [(Ag [N0, (Sl 150 0 1 1)]), (Sl 151 0 1 1)], (I 0)⟩
theorem h16 : Entry PG G0 105 e16.fr e16.a e16.v := Entry.of (n := 348) (m := 100000) oe15 (by kernel_rfl) (by kernel_rfl)
noncomputable def t16 : Tab := addE t15 105 e16
theorem oe16 : OrcOK (Globs G0) PG (orcT t16) := oe15.add h16
noncomputable def b149 : Nat × Ob := (149, (.cells [(S [101, 117]), (Sl 148 0 1 1), (S [48, 49, 50, 51, 52, 53, 54, 55, 56, 57, 97, 98, 99, 100, 101, 102]), tF] 4 0 72))
noncomputable def b148 : Nat × Ob := (148, (.cells [(I 0), (I 0)] 2 0 67))
noncomputable def b38 : Nat × Ob := (38, (.cells [(S [112, 48]), (Sl 34 0 1 1), (S [112, 49]), (Sl 37 0 1 1)] 4 0 62))
noncomputable def b34 : Nat × Ob := (34, (.cells [(I 1), (Sl 33 0 1 1)] 2 0 162))
noncomputable def b37 : Nat × Ob := (37, (.cells [(I 1), (Sl 36 0 1 1)] 2 0 162))
noncomputable def e17 : En := ⟨[b147, b149, b148, b38, b34, b33, b37, b36, b150, b151], [(Ag [(Sl 147 0 6 1180591620717411303430), N0, N0, (I 5), (I 0), (I 0), (I 0), (Sl 149 0 1 1), (Sl 38 0 2 2), N0, (Sl 150 0 1 1), (Sl 151 0 1 1), (S [69, 85, 82]), N0, (I 50), (I 0), (I 0)])], (I 0)⟩
theorem h17 : Entry PG G0 32 e17.fr e17.a e17.v := Entry.of (n := 161) (m := 100000) oe16 (by kernel_rfl) (by kernel_rfl)
noncomputable def t17 : Tab := addE t16 32 e17
theorem oe17 : OrcOK (Globs G0) PG (orcT t17) := oe16.add h17
noncomputable def e18 : En := ⟨[], [(I 0)], (S [48])⟩
theorem h18 : Entry PG G0 162 e18.fr e18.a e18.v := Entry.of (n := 309) (m := 100000) oe17 (by kernel_rfl) (by kernel_rfl)
noncomputable def t18 : Tab := addE t17 162 e18
theorem oe18 : OrcOK (Globs G0) PG (orcT t18) := oe17.add h18
noncomputable def b157 : Nat × Ob := (157, (.cells [(S [112, 49]), (I 0), (S [112, 48]), (I 0)] 4 0 98))
noncomputable def b158 : Nat × Ob := (158, (.cells [(I 0)] 1 0 3))
noncomputable def e19 : En := ⟨[b147, b149, b148, b38, b34, b33, b37, b36, b150, b151, b157, b158], [(Ag [(Sl 147 0 6 1180591620717411303430), N0, N0, (I 5), (I 0), (I 0), (I 0), (Sl 149 0 1 1), (Sl 38 0 2 2), N0, (Sl 150 0 1 1), (Sl 151 0 1 1), (S [69, 85, 82]), N0, (I 50), (I 0), (I 0)]), (Ag [(S [116]), (Sl 157 0 2 2), (Sl 158 0 1 1), (S [103]), (I 1), (S [69, 85, 82]), (I 7), (I 0), (I 0), (I 0)])], (I 0)⟩
theorem h19 : Entry PG G0 16 e19.fr e19.a e19.v := Entry.of (n := 167) (m := 100000) oe18 (by kernel_rfl) (by kernel_rfl)
noncomputable def t19 : Tab := addE t18 16 e19
theorem oe19 : OrcOK (Globs G0) PG (orcT t19) := oe18.add h19
noncomputable def e20 : En := ⟨[], [(S [48, 49, 50, 51, 52, 53, 54, 55, 56, 57])], (Tu [(Ag (rp 48 tF ++ rp 10 tT ++ rp 198 tF)), tT])⟩
theorem h20 : Entry PG G0 318 e20.fr e20.a e20.v := Entry.of (n := 186) (m := 100000) oe19 (by kernel_rfl) (by kernel_rfl)
noncomputable def t20 : Tab := addE t19 318 e20
theorem oe20 : OrcOK (Globs G0) PG (orcT t20) := oe19.add h20
noncomputable def e21 : En := ⟨[], [(S [49])], tT⟩
theorem h21 : Entry PG G0 347 e21.fr e21.a e21.v := Entry.of (n := 187) (m := 100000) oe20 (by kernel_rfl) (by kernel_rfl)
noncomputable def t21 : Tab := addE t20 347 e21
theorem oe21 : OrcOK (Globs G0) PG (orcT t21) := oe20.add h21
noncomputable def e22 : En := ⟨[], [(S [49]), (I 10), (I 64)], (Tu [(.int .u64 (.ofNat 1)), .nilIface])⟩
theorem h22 : Entry PG G0 419 e22.fr e22.a e22.v := Entry.of (n := 190) (m := 100000) oe21 (by kernel_rfl) (by kernel_rfl)
noncomputable def t22 : Tab := addE t21 419 e22
theorem oe22 : OrcOK (Globs G0) PG (orcT t22) := oe21.add h22
noncomputable def e23 : En := ⟨[], [(I 1), (I 1)], (I 0)⟩
theorem h23 : Entry PG G0 156 e23.fr e23.a e23.v := Entry.of (n := 202) (m := 100000) oe22 (by kernel_rfl) (by kernel_rfl)
noncomputable def t23 : Tab := addE t22 156 e23
theorem oe23 : OrcOK (Globs G0) PG (orcT t23) := oe22.add h23
noncomputable def e24 : En := ⟨[], [(S [55]), (S [49])], (Tu [(S [49]), (I 0)])⟩
theorem h24 : Entry PG G0 282 e24.fr e24.a e24.v := Entry.of (n := 186) (m := 100000) oe23 (by kernel_rfl) (by kernel_rfl)
noncomputable def t24 : Tab := addE t23 282 e24
theorem oe24 : OrcOK (Globs G0) PG (orcT t24) := oe23.add h24
noncomputable def e25 : En := ⟨[], [(S [55]), (S [49])], (Tu [(S [55]), (S [48]), (I 0)])⟩
theorem h25 : Entry PG G0 228 e25.fr e25.a e25.v := Entry.of (n := 187) (m := 100000) oe24 (by kernel_rfl) (by kernel_rfl)
noncomputable def t25 : Tab := addE t24 228 e25
theorem oe25 : OrcOK (Globs G0) PG (orcT t25) := oe24.add h25
noncomputable def e26 : En := ⟨[], [(S [49]), (S [49])], (Tu [(S [49]), (S [48]), (I 0)])⟩
theorem h26 : Entry PG G0 228 e26.fr e26.a e26.v := Entry.of (n := 187) (m := 100000) oe25 (by kernel_rfl) (by kernel_rfl)
noncomputable def t26 : Tab := addE t25 228 e26
theorem oe26 : OrcOK (Globs G0) PG (orcT t26) := oe25.add h26
noncomputable def e27 : En := ⟨[], [(S [49]), (S [49])], (Tu [(S [49]), (I 0)])⟩
theorem h27 : Entry PG G0 282 e27.fr e27.a e27.v := Entry.of (n := 192) (m := 100000) oe26 (by kernel_rfl) (by kernel_rfl)
noncomputable def t27 : Tab := addE t26 282 e27
theorem oe27 : OrcOK (Globs G0) PG (orcT t27) := oe26.add h27
noncomputable def e28 : En := ⟨[], [(I 1), (I 1)], (Tu [(Ag [tF, (S [49]), (S [49])]), (I 0)])⟩
theorem h28 : Entry PG G0 75 e28.fr e28.a e28.v := Entry.of (n := 190) (m := 100000) oe27 (by kernel_rfl) (by kernel_rfl)
noncomputable def t28 : Tab := addE t27 75 e28
theorem oe28 : OrcOK (Globs G0) PG (orcT t28) := oe27.add h28
noncomputable def e29 : En := ⟨[], [(S [49]), (S [49])], (Tu [(S [49]), (I 0)])⟩
theorem h29 : Entry PG G0 435 e29.fr e29.a e29.v := Entry.of (n := 234) (m := 100000) oe28 (by kernel_rfl) (by kernel_rfl)
noncomputable def t29 : Tab := addE t28 435 e29
theorem oe29 : OrcOK (Globs G0) PG (orcT t29) := oe28.add h29
noncomputable def e30 : En := ⟨[], [(Ag [tF, (S [55]), (S [49])]), (Ag [tF, (S [49]), (S [49])])], (Tu [(Ag [tF, (S [55]), (S [49])]), (I 0)])⟩
theorem h30 : Entry PG G0 123 e30.fr e30.a e30.v := Entry.of (n := 191) (m := 100000) oe29 (by kernel_rfl) (by kernel_rfl)
noncomputable def t30 : Tab := addE t29 123 e30
theorem oe30 : OrcOK (Globs G0) PG (orcT t30) := oe29.add h30
noncomputable def e31 : En := ⟨[b147, b149, b148, b38, b34, b33, b37, b36, b150, b151, b157, b158], [(Ag [(Sl 147 0 6 1180591620717411303430), N0, N0, (I 5), (I 0), (I 0), (I 0), (Sl 149 0 1 1), (Sl 38 0 2 2), N0, (Sl 150 0 1 1), (Sl 151 0 1 1), (S [69, 85, 82]), N0, (I 50), (I 0), (I 0)]), (Ag [(S [116]), (Sl 157 0 2 2), (Sl 158 0 1 1), (S [103]), (I 1), (S [69, 85, 82]), (I 7), (I 0), (I 0), (I 0)]), (I 10)], (Tu [(I 7), (I 0)])⟩
theorem h31 : Entry PG G0 49 e31.fr e31.a e31.v := Entry.of (n := 169) (m := 100000) oe30 (by kernel_rfl) (by kernel_rfl)
noncomputable def t31 : Tab := addE t30 49 e31
theorem oe31 : OrcOK (Globs G0) PG (orcT t31) := oe30.add h31
noncomputable def e32 : En := ⟨[], [N0, (S [69, 85, 82]), (Ag [(S [69, 85, 82]), (I 1)]), (S [69, 85, 82]), (I 0)], (Tu [(Ag [tF, (S [49]), (S [49])]), (I 0)])⟩
theorem h32 : Entry PG G0 119 e32.fr e32.a e32.v := Entry.of (n := 222) (m := 100000) oe31 (by kernel_rfl) (by kernel_rfl)
noncomputable def t32 : Tab := addE t31 119 e32
theorem oe32 : OrcOK (Globs G0) PG (orcT t32) := oe31.add h32
noncomputable def e33 : En := ⟨[], [(S [48])], tT⟩
theorem h33 : Entry PG G0 347 e33.fr e33.a e33.v := Entry.of (n := 249) (m := 100000) oe32 (by kernel_rfl) (by kernel_rfl)
noncomputable def t33 : Tab := addE t32 347 e33
theorem oe33 : OrcOK (Globs G0) PG (orcT t33) := oe32.add h33
noncomputable def e34 : En := ⟨[], [tF, (S [48]), (S [49])], (Tu [(Ag [tF, (S [48]), (S [49])]), (I 0)])⟩
theorem h34 : Entry PG G0 163 e34.fr e34.a e34.v := Entry.of (n := 248) (m := 100000) oe33 (by kernel_rfl) (by kernel_rfl)
noncomputable def t34 : Tab := addE t33 163 e34
theorem oe34 : OrcOK (Globs G0) PG (orcT t34) := oe33.add h34
noncomputable def e35 : En := ⟨[], [(S [49, 48, 48])], tT⟩
theorem h35 : Entry PG G0 347 e35.fr e35.a e35.v := Entry.of (n := 324) (m := 100000) oe34 (by kernel_rfl) (by kernel_rfl)
noncomputable def t35 : Tab := addE t34 347 e35
theorem oe35 : OrcOK (Globs G0) PG (orcT t35) := oe34.add h35
noncomputable def e36 : En := ⟨[], [(S [49, 48, 48]), (I 10), (I 64)], (Tu [(.int .u64 (.ofNat 100)), .nilIface])⟩
theorem h36 : Entry PG G0 419 e36.fr e36.a e36.v := Entry.of (n := 324) (m := 100000) oe35 (by kernel_rfl) (by kernel_rfl)
noncomputable def t36 : Tab := addE t35 419 e36
theorem oe36 : OrcOK (Globs G0) PG (orcT t36) := oe35.add h36
noncomputable def e37 : En := ⟨[], [(.int .u64 (.ofNat 100))], tF⟩
theorem h37 : Entry PG G0 535 e37.fr e37.a e37.v := Entry.of (n := 341) (m := 100000) oe36 (by kernel_rfl) (by kernel_rfl)
noncomputable def t37 : Tab := addE t36 535 e37
theorem oe37 : OrcOK (Globs G0) PG (orcT t37) := oe36.add h37
noncomputable def e38 : En := ⟨[], [(S [49, 48, 48]), (S [49])], (Tu [(S [49]), (I 0)])⟩
theorem h38 : Entry PG G0 282 e38.fr e38.a e38.v := Entry.of (n := 324) (m := 100000) oe37 (by kernel_rfl) (by kernel_rfl)
noncomputable def t38 : Tab := addE t37 282 e38
theorem oe38 : OrcOK (Globs G0) PG (orcT t38) := oe37.add h38
noncomputable def e39 : En := ⟨[b150, b151], [(Ag [N0, (Sl 150 0 1 1)]), (Sl 151 0 1 1), N0, (S [69, 85, 82]), (S [103]), (I 0)], (Tu [(I 0), (I 0)])⟩
theorem h39 : Entry PG G0 50 e39.fr e39.a e39.v := Entry.of (n := 169) (m := 100000) oe38 (by kernel_rfl) (by kernel_rfl)
noncomputable def t39 : Tab := addE t38 50 e39
theorem oe39 : OrcOK (Globs G0) PG (orcT t39) := oe38.add h39
noncomputable def b154 : Nat × Ob := (154, (.cells [(I 1), (Sl 153 0 1 1)] 2 0 162))
noncomputable def b153 : Nat × Ob := (153, (.cells [(S [109, 97, 110, 97])] 1 0 9))
noncomputable def e40 : En := ⟨[b154, b153], [(Ag ([(I 1), (I 1), (S [101, 48]), (S [101, 48]), (Sl 154 0 1 1), (I 0), (S []), (S []), (I 0), (S []), (I 0), (S []), (I 0), (I 0), N0, (I 0), (I 0), (I 0), (S []), N0, N0, (I 0), (I 0), (I 0), (I 0)] ++ rp 5 (S []) ++ [N0, (I 0), (I 0), (I 0), (I 0), (S []), (I 0)]))], tT⟩
theorem h40 : Entry PG G0 60 e40.fr e40.a e40.v := Entry.of (n := 246) (m := 100000) oe39 (by kernel_rfl) (by kernel_rfl)
noncomputable def t40 : Tab := addE t39 60 e40
theorem oe40 : OrcOK (Globs G0) PG (orcT t40) := oe39.add h40
noncomputable def e41 : En := ⟨[b153], [(Ag [(I 1), (Sl 153 0 1 1)])], tT⟩
theorem h41 : Entry PG G0 106 e41.fr e41.a e41.v := Entry.of (n := 434) (m := 100000) oe40 (by kernel_rfl) (by kernel_rfl)
noncomputable def t41 : Tab := addE t40 106 e41
theorem oe41 : OrcOK (Globs G0) PG (orcT t41) := oe40.add h41
noncomputable def e42 : En := ⟨[b154, b153], [(Ag [(S [101, 48]), (Sl 154 0 1 1)])], tT⟩
theorem h42 : Entry PG G0 99 e42.fr e42.a e42.v := Entry.of (n := 364) (m := 100000) oe41 (by kernel_rfl) (by kernel_rfl)
noncomputable def t42 : Tab := addE t41 99 e42
theorem oe42 : OrcOK (Globs G0) PG (orcT t42) := oe41.add h42
noncomputable def e43 : En := ⟨[b154, b153], [(Ag [(I 1), (S [101, 48]), (S [101, 48]), (Sl 154 0 1 1), (I 0)])], tT⟩
theorem h43 : Entry PG G0 242 e43.fr e43.a e43.v := Entry.of (n := 295) (m := 100000) oe42 (by kernel_rfl) (by kernel_rfl)
noncomputable def t43 : Tab := addE t42 242 e43
theorem oe43 : OrcOK (Globs G0) PG (orcT t43) := oe42.add h43
noncomputable def e44 : En := ⟨[], [N0, (I 0)], (Tu [(Ag [N0, N0, N0]), (I 0)])⟩
theorem h44 : Entry PG G0 19 e44.fr e44.a e44.v := Entry.of (n := 321) (m := 100000) oe43 (by kernel_rfl) (by kernel_rfl)
noncomputable def t44 : Tab := addE t43 19 e44
theorem oe44 : OrcOK (Globs G0) PG (orcT t44) := oe43.add h44
noncomputable def e45 : En := ⟨[b153], [(Ag [(I 1), (Sl 153 0 1 1)])], (S [112, 108, 97, 105, 110, 58, 109, 97, 110, 97])⟩
theorem h45 : Entry PG G0 33 e45.fr e45.a e45.v := Entry.of (n := 363) (m := 100000) oe44 (by kernel_rfl) (by kernel_rfl)
noncomputable def t45 : Tab := addE t44 33 e45
theorem oe45 : OrcOK (Globs G0) PG (orcT t45) := oe44.add h45
noncomputable def e46 : En := ⟨[b33], [(Ag [(I 1), (Sl 33 0 1 1)])], (S [112, 108, 97, 105, 110, 58, 109, 97, 110, 97])⟩
theorem h46 : Entry PG G0 33 e46.fr e46.a e46.v := Entry.of (n := 363) (m := 100000) oe45 (by kernel_rfl) (by kernel_rfl)
noncomputable def t46 : Tab := addE t45 33 e46
theorem oe46 : OrcOK (Globs G0) PG (orcT t46) := oe45.add h46
noncomputable def e47 : En := ⟨[], [(I 1), (S [109, 97, 110, 97])], (Tu [(S [109, 97, 110, 97]), (I 0)])⟩
theorem h47 : Entry PG G0 324 e47.fr e47.a e47.v := Entry.of (n := 398) (m := 100000) oe46 (by kernel_rfl) (by kernel_rfl)
noncomputable def t47 : Tab := addE t46 324 e47
theorem oe47 : OrcOK (Globs G0) PG (orcT t47) := oe46.add h47
noncomputable def e48 : En := ⟨[b147], [(Ag [(Sl 147 0 6 1180591620717411303430), N0, N0, (I 5), (I 0), (I 0)]), (I 1), (S [109, 97, 110, 97])], (Tu [(I 5), (I 0)])⟩
theorem h48 : Entry PG G0 371 e48.fr e48.a e48.v := Entry.of (n := 543) (m := 100000) oe47 (by kernel_rfl) (by kernel_rfl)
noncomputable def t48 : Tab := addE t47 371 e48
theorem oe48 : OrcOK (Globs G0) PG (orcT t48) := oe47.add h48
noncomputable def e49 : En := ⟨[b36], [(Ag [(I 1), (Sl 36 0 1 1)])], (S [112, 108, 97, 105, 110, 58, 107, 97, 116, 105])⟩
theorem h49 : Entry PG G0 33 e49.fr e49.a e49.v := Entry.of (n := 4552) (m := 100000) oe48 (by kernel_rfl) (by kernel_rfl)
noncomputable def t49 : Tab := addE t48 33 e49
theorem oe49 : OrcOK (Globs G0) PG (orcT t49) := oe48.add h49
noncomputable def e50 : En := ⟨[], [(I 1), (S [107, 97, 116, 105])], (Tu [(S [107, 97, 116, 105]), (I 0)])⟩
theorem h50 : Entry PG G0 324 e50.fr e50.a e50.v := Entry.of (n := 4756) (m := 100000) oe49 (by kernel_rfl) (by kernel_rfl)
noncomputable def t50 : Tab := addE t49 324 e50
theorem oe50 : OrcOK (Globs G0) PG (orcT t50) := oe49.add h50
noncomputable def e51 : En := ⟨[b147], [(Ag [(Sl 147 0 6 1180591620717411303430), N0, N0, (I 5), (I 0), (I 0)]), (I 1), (S [109, 97, 110, 97]), (I 1), (S [107, 97, 116, 105])], (Tu [(Ag [(I 0), N0, N0, (S [])]), (I 11)])⟩
theorem h51 : Entry PG G0 373 e51.fr e51.a e51.v := Entry.of (n := 4937) (m := 100000) oe50 (by kernel_rfl) (by kernel_rfl)
noncomputable def t51 : Tab := addE t50 373 e51
theorem oe51 : OrcOK (Globs G0) PG (orcT t51) := oe50.add h51
noncomputable def e52 : En := ⟨[b147, b153, b36], [(Ag [(Sl 147 0 6 1180591620717411303430), N0, N0, (I 5), (I 0), (I 0)]), (Ag [(I 1), (Sl 153 0 1 1)]), (Ag [(I 1), (Sl 36 0 1 1)])], (Tu [(Ag [(I 10), tF, N0]), (I 0)])⟩
theorem h52 : Entry PG G0 158 e52.fr e52.a e52.v := Entry.of (n := 4576) (m := 100000) oe51 (by kernel_rfl) (by kernel_rfl)
noncomputable def t52 : Tab := addE t51 158 e52
theorem oe52 : OrcOK (Globs G0) PG (orcT t52) := oe51.add h52
noncomputable def e53 : En := ⟨[], [(S [53, 48]), (I 10), (I 64)], (Tu [(.int .u64 (.ofNat 50)), .nilIface])⟩
theorem h53 : Entry PG G0 419 e53.fr e53.a e53.v := Entry.of (n := 5867) (m := 100000) oe52 (by kernel_rfl) (by kernel_rfl)
noncomputable def t53 : Tab := addE t52 419 e53
theorem oe53 : OrcOK (Globs G0) PG (orcT t53) := oe52.add h53
noncomputable def e54 : En := ⟨[], [(I 50), (I 100)], (Tu [(Ag [tF, (S [49]), (S [50])]), (I 0)])⟩
theorem h54 : Entry PG G0 75 e54.fr e54.a e54.v := Entry.of (n := 5848) (m := 100000) oe53 (by kernel_rfl) (by kernel_rfl)
noncomputable def t54 : Tab := addE t53 75 e54
theorem oe54 : OrcOK (Globs G0) PG (orcT t54) := oe53.add h54
noncomputable def e55 : En := ⟨[], [(S [115, 116, 101, 112])], tT⟩
theorem h55 : Entry PG G0 329 e55.fr e55.a e55.v := Entry.of (n := 6030) (m := 100000) oe54 (by kernel_rfl) (by kernel_rfl)
noncomputable def t55 : Tab := addE t54 329 e55
theorem oe55 : OrcOK (Globs G0) PG (orcT t55) := oe54.add h55
noncomputable def e56 : En := ⟨[], [(S [118, 97, 108, 117, 101])], tT⟩
theorem h56 : Entry PG G0 329 e56.fr e56.a e56.v := Entry.of (n := 6031) (m := 100000) oe55 (by kernel_rfl) (by kernel_rfl)
noncomputable def t56 : Tab := addE t55 329 e56
theorem oe56 : OrcOK (Globs G0) PG (orcT t56) := oe55.add h56
noncomputable def e57 : En := ⟨[], [(S [108, 105, 115, 116, 101, 100])], tT⟩
theorem h57 : Entry PG G0 329 e57.fr e57.a e57.v := Entry.of (n := 6032) (m := 100000) oe56 (by kernel_rfl) (by kernel_rfl)
noncomputable def t57 : Tab := addE t56 329 e57
theorem oe57 : OrcOK (Globs G0) PG (orcT t57) := oe56.add h57
noncomputable def e58 : En := ⟨[], [(S [111, 119, 110, 101, 100])], tT⟩
theorem h58 : Entry PG G0 329 e58.fr e58.a e58.v := Entry.of (n := 6033) (m := 100000) oe57 (by kernel_rfl) (by kernel_rfl)
noncomputable def t58 : Tab := addE t57 329 e58
theorem oe58 : OrcOK (Globs G0) PG (orcT t58) := oe57.add h58
noncomputable def e59 : En := ⟨[], [(S [99, 111, 110, 116, 114, 111, 108, 108, 101, 100])], tT⟩
theorem h59 : Entry PG G0 329 e59.fr e59.a e59.v := Entry.of (n := 6034) (m := 100000) oe58 (by kernel_rfl) (by kernel_rfl)
noncomputable def t59 : Tab := addE t58 329 e59
theorem oe59 : OrcOK (Globs G0) PG (orcT t59) := oe58.add h59
noncomputable def e60 : En := ⟨[], [(S [99, 108, 97, 115, 115])], tT⟩
theorem h60 : Entry PG G0 329 e60.fr e60.a e60.v := Entry.of (n := 6035) (m := 100000) oe59 (by kernel_rfl) (by kernel_rfl)
noncomputable def t60 : Tab := addE t59 329 e60
theorem oe60 : OrcOK (Globs G0) PG (orcT t60) := oe59.add h60
noncomputable def e61 : En := ⟨[], [(S [115, 104, 97, 114, 101])], tT⟩
theorem h61 : Entry PG G0 329 e61.fr e61.a e61.v := Entry.of (n := 6036) (m := 100000) oe60 (by kernel_rfl) (by kernel_rfl)
noncomputable def t61 : Tab := addE t60 329 e61
theorem oe61 : OrcOK (Globs G0) PG (orcT t61) := oe60.add h61
noncomputable def e62 : En := ⟨[], [(S [111, 114, 105, 103, 105, 110])], tT⟩
theorem h62 : Entry PG G0 329 e62.fr e62.a e62.v := Entry.of (n := 6037) (m := 100000) oe61 (by kernel_rfl) (by kernel_rfl)
noncomputable def t62 : Tab := addE t61 329 e62
theorem oe62 : OrcOK (Globs G0) PG (orcT t62) := oe61.add h62
noncomputable def e63 : En := ⟨[], [(S [103, 111, 97, 108])], tT⟩
theorem h63 : Entry PG G0 329 e63.fr e63.a e63.v := Entry.of (n := 6038) (m := 100000) oe62 (by kernel_rfl) (by kernel_rfl)
noncomputable def t63 : Tab := addE t62 329 e63
theorem oe63 : OrcOK (Globs G0) PG (orcT t63) := oe62.add h63
noncomputable def b5828 : Nat × Ob := (5828, (.cells [(S [115, 116, 101, 112]), (I 2), (I 1), (I 7), (S [118, 97, 108, 117, 101]), (I 2), (I 0), (I 1000000), (S [108, 105, 115, 116, 101, 100]), (I 1), (I 0), (I 1), (S [111, 119, 110, 101, 100]), (I 1), (I 0), (I 1), (S [99, 111, 110, 116, 114, 111, 108, 108, 101, 100]), (I 1), (I 0), (I 1), (S [99, 108, 97, 115, 115]), (I 1), (I 0), (I 1), (S [115, 104, 97, 114, 101]), (I 2), (I 0), (I 100), (S [111, 114, 105, 103, 105, 110]), (I 2), (I 0), (I 99), (S [103, 111, 97, 108]), (I 2), (I 0), (I 99)] 36 0 213))
noncomputable def e64 : En := ⟨[b5828], [(Ag [(Sl 5828 0 9 9)])], tT⟩
theorem h64 : Entry PG G0 212 e64.fr e64.a e64.v := Entry.of (n := 6027) (m := 100000) oe63 (by kernel_rfl) (by kernel_rfl)
noncomputable def t64 : Tab := addE t63 212 e64
theorem oe64 : OrcOK (Globs G0) PG (orcT t64) := oe63.add h64
noncomputable def b5974 : Nat × Ob := (5974, (.cells [(S [101, 117])] 1 2 9))
noncomputable def b5990 : Nat × Ob := (5990, (.cells [(Sl 148 0 1 1)] 1 2 70))
noncomputable def b6001 : Nat × Ob := (6001, (.cells [(Sl 5956 0 9 9)] 1 2 78))
noncomputable def b5956 : Nat × Ob := (5956, (.cells ([(I 1), (I 7), (I 1)] ++ rp 6 (I 0)) 9 0 3))
noncomputable def e65 : En := ⟨[b5828, b5974, b5990, b148, b6001, b5956], [N0, (Ag [(Sl 5828 0 9 9), (Sl 5974 0 1 1180591620717411303425), (Sl 5990 0 1 1180591620717411303425), (Sl 6001 0 1 1180591620717411303425), (I 0), (I 10)]), N0], (Tu [(Ag [(I 1), N0, N0]), (I 0)])⟩
theorem h65 : Entry PG G0 90 e65.fr e65.a e65.v := Entry.of (n := 6020) (m := 100000) oe64 (by kernel_rfl) (by kernel_rfl)
noncomputable def t65 : Tab := addE t64 90 e65
theorem oe65 : OrcOK (Globs G0) PG (orcT t65) := oe64.add h65
noncomputable def b5793 : Nat × Ob := (5793, (.cells [(S [115, 116, 101, 112]), (I 2), (I 1), (I 7), (S [118, 97, 108, 117, 101]), (I 2), (I 0), (I 1000000), (S [108, 105, 115, 116, 101, 100]), (I 1), (I 0), (I 1), (S [111, 119, 110, 101, 100]), (I 1), (I 0), (I 1), (S [99, 111, 110, 116, 114, 111, 108, 108, 101, 100]), (I 1), (I 0), (I 1), (S [99, 108, 97, 115, 115]), (I 1), (I 0), (I 1), (S [115, 104, 97, 114, 101]), (I 2), (I 0), (I 100), (S [111, 114, 105, 103, 105, 110]), (I 2), (I 0), (I 99), (S [103, 111, 97, 108]), (I 2), (I 0), (I 99)] 36 0 213))
noncomputable def e66 : En := ⟨[b5793], [(Ag [(Sl 5793 0 9 9)])], tT⟩
theorem h66 : Entry PG G0 212 e66.fr e66.a e66.v := Entry.of (n := 5992) (m := 100000) oe65 (by kernel_rfl) (by kernel_rfl)
noncomputable def t66 : Tab := addE t65 212 e66
theorem oe66 : OrcOK (Globs G0) PG (orcT t66) := oe65.add h66
noncomputable def b5939 : Nat × Ob := (5939, (.cells [(S [101, 117])] 1 2 9))
noncomputable def b5955 : Nat × Ob := (5955, (.cells [(Sl 148 0 1 1)] 1 2 70))
noncomputable def b5966 : Nat × Ob := (5966, (.cells [(Sl 5921 0 9 9)] 1 2 78))
noncomputable def b5921 : Nat × Ob := (5921, (.cells ([(I 1), (I 7), (I 1)] ++ rp 6 (I 0)) 9 0 3))
noncomputable def e67 : En := ⟨[b5793, b5939, b5955, b148, b5966, b5921], [N0, (Ag [(Sl 5793 0 9 9), (Sl 5939 0 1 1180591620717411303425), (Sl 5955 0 1 1180591620717411303425), (Sl 5966 0 1 1180591620717411303425), (I 0), (I 10)]), N0], (Tu [(Ag [(I 1), N0, N0]), (I 0)])⟩
theorem h67 : Entry PG G0 90 e67.fr e67.a e67.v := Entry.of (n := 5985) (m := 100000) oe66 (by kernel_rfl) (by kernel_rfl)
noncomputable def t67 : Tab := addE t66 90 e67
theorem oe67 : OrcOK (Globs G0) PG (orcT t67) := oe66.add h67
noncomputable def e68 : En := ⟨[b147, b149, b148, b38, b34, b33, b37, b36, b150, b151, b157, b158], [(Ag [(Sl 147 0 6 1180591620717411303430), N0, N0, (I 5), (I 0), (I 0), (I 0), (Sl 149 0 1 1), (Sl 38 0 2 2), N0, (Sl 150 0 1 1), (Sl 151 0 1 1), (S [69, 85, 82]), N0, (I 50), (I 0), (I 0)]), (Ag [(S [116]), (Sl 157 0 2 2), (Sl 158 0 1 1), (S [103]), (I 1), (S [69, 85, 82]), (I 7), (I 0), (I 0), (I 0)]), (I 20)], (Tu [(I 7), (I 0)])⟩
theorem h68 : Entry PG G0 49 e68.fr e68.a e68.v := Entry.of (n := 6033) (m := 100000) oe67 (by kernel_rfl) (by kernel_rfl)
noncomputable def t68 : Tab := addE t67 49 e68
theorem oe68 : OrcOK (Globs G0) PG (orcT t68) := oe67.add h68
noncomputable def b6369 : Nat × Ob := (6369, (.cells [(S [115, 116, 101, 112]), (I 2), (I 1), (I 7), (S [118, 97, 108, 117, 101]), (I 2), (I 0), (I 1000000), (S [108, 105, 115, 116, 101, 100]), (I 1), (I 0), (I 1), (S [111, 119, 110, 101, 100]), (I 1), (I 0), (I 1), (S [99, 111, 110, 116, 114, 111, 108, 108, 101, 100]), (I 1), (I 0), (I 1), (S [99, 108, 97, 115, 115]), (I 1), (I 0), (I 1), (S [115, 104, 97, 114, 101]), (I 2), (I 0), (I 100), (S [111, 114, 105, 103, 105, 110]), (I 2), (I 0), (I 99), (S [103, 111, 97, 108]), (I 2), (I 0), (I 99)] 36 0 213))
noncomputable def e69 : En := ⟨[b6369], [(Ag [(Sl 6369 0 9 9)])], tT⟩
theorem h69 : Entry PG G0 212 e69.fr e69.a e69.v := Entry.of (n := 6568) (m := 100000) oe68 (by kernel_rfl) (by kernel_rfl)
noncomputable def t69 : Tab := addE t68 212 e69
theorem oe69 : OrcOK (Globs G0) PG (orcT t69) := oe68.add h69
noncomputable def b6515 : Nat × Ob := (6515, (.cells [(S [101, 117])] 1 2 9))
noncomputable def b6531 : Nat × Ob := (6531, (.cells [(Sl 148 0 1 1)] 1 2 70))
noncomputable def b6542 : Nat × Ob := (6542, (.cells [(Sl 6497 0 9 9)] 1 2 78))
noncomputable def b6497 : Nat × Ob := (6497, (.cells ([(I 4), (I 7), (I 1)] ++ rp 6 (I 0)) 9 0 3))
noncomputable def e70 : En := ⟨[b6369, b6515, b6531, b148, b6542, b6497], [N0, (Ag [(Sl 6369 0 9 9), (Sl 6515 0 1 1180591620717411303425), (Sl 6531 0 1 1180591620717411303425), (Sl 6542 0 1 1180591620717411303425), (I 0), (I 20)]), N0], (Tu [(Ag [(I 1), N0, N0]), (I 0)])⟩
theorem h70 : Entry PG G0 90 e70.fr e70.a e70.v := Entry.of (n := 6561) (m := 100000) oe69 (by kernel_rfl) (by kernel_rfl)
noncomputable def t70 : Tab := addE t69 90 e70
theorem oe70 : OrcOK (Globs G0) PG (orcT t70) := oe69.add h70
noncomputable def b6334 : Nat × Ob := (6334, (.cells [(S [115, 116, 101, 112]), (I 2), (I 1), (I 7), (S [118, 97, 108, 117, 101]), (I 2), (I 0), (I 1000000), (S [108, 105, 115, 116, 101, 100]), (I 1), (I 0), (I 1), (S [111, 119, 110, 101, 100]), (I 1), (I 0), (I 1), (S [99, 111, 110, 116, 114, 111, 108, 108, 101, 100]), (I 1), (I 0), (I 1), (S [99, 108, 97, 115, 115]), (I 1), (I 0), (I 1), (S [115, 104, 97, 114, 101]), (I 2), (I 0), (I 100), (S [111, 114, 105, 103, 105, 110]), (I 2), (I 0), (I 99), (S [103, 111, 97, 108]), (I 2), (I 0), (I 99)] 36 0 213))
noncomputable def e71 : En := ⟨[b6334], [(Ag [(Sl 6334 0 9 9)])], tT⟩
theorem h71 : Entry PG G0 212 e71.fr e71.a e71.v := Entry.of (n := 6533) (m := 100000) oe70 (by kernel_rfl) (by kernel_rfl)
noncomputable def t71 : Tab := addE t70 212 e71
theorem oe71 : OrcOK (Globs G0) PG (orcT t71) := oe70.add h71
noncomputable def b6480 : Nat × Ob := (6480, (.cells [(S [101, 117])] 1 2 9))
noncomputable def b6496 : Nat × Ob := (6496, (.cells [(Sl 148 0 1 1)] 1 2 70))
noncomputable def b6507 : Nat × Ob := (6507, (.cells [(Sl 6462 0 9 9)] 1 2 78))
noncomputable def b6462 : Nat × Ob := (6462, (.cells ([(I 4), (I 7), (I 1)] ++ rp 6 (I 0)) 9 0 3))
noncomputable def e72 : En := ⟨[b6334, b6480, b6496, b148, b6507, b6462], [N0, (Ag [(Sl 6334 0 9 9), (Sl 6480 0 1 1180591620717411303425), (Sl 6496 0 1 1180591620717411303425), (Sl 6507 0 1 1180591620717411303425), (I 0), (I 20)]), N0], (Tu [(Ag [(I 1), N0, N0]), (I 0)])⟩
theorem h72 : Entry PG G0 90 e72.fr e72.a e72.v := Entry.of (n := 6526) (m := 100000) oe71 (by kernel_rfl) (by kernel_rfl)
noncomputable def t72 : Tab := addE t71 90 e72
theorem oe72 : OrcOK (Globs G0) PG (orcT t72) := oe71.add h72
theorem hhead : Entry PG G0 4 [] [] tT := Entry.of (n := gBase) (m := 100000) (e := ⟨[], [], tT⟩) oe72 (by kernel_rfl) (by kernel_rfl)
end Go.Ev
