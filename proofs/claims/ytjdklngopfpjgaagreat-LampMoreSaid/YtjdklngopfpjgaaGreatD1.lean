/- Part D1 of the proof. -/
import Derived.Test.YtjdklngopfpjgaaGreatX7
import Derived.Test.YtjdklngopfpjgaaGreatProg
import Derived.KernelRfl
open Go Go.AX Go.Proofs
namespace Q
noncomputable section
set_option maxRecDepth 100000
set_option linter.unusedVariables false
abbrev z0:Ty:=.pair (.int .i64) (.int .i64)
abbrev z1:Ty:=.list z0
abbrev z2:Ty:=.pair (.int .i64) z0
abbrev z3:Ty:=.list (.pair .str (.pair .bool (.list (.int .i64))))
abbrev z4:Ty:=.list z2
abbrev z5:Ty:=.pair (.int .i64) z2
abbrev z6:Ty:=.list (.pair (.int .i64) z5)
abbrev z7:Ty:=.pair (.int .i64) (.pair .bool (.pair .bool z2))
abbrev z8:Ty:=.pair (.int .i64) z7
abbrev z9:Ty:=.pair (.int .i64) z8
abbrev d0:Type:=List (Int)
abbrev d1:Type:=List (Int×Nat)
abbrev d2:Type:=List ((Int×Int))
abbrev d3:Type:=List ((Int×(Int×Int)))
abbrev d4:Type:=List ((List UInt8×(Bool×d0)))
abbrev d5:Type:=List ((Int×(Int×(Int×(Int×Int)))))
abbrev d6:Type:=List (((Int×(Int×(Int×(Bool×(Bool×(Int×(Int×Int))))))))×Option Nat)
structure S where
 bits:(Int)
 big:(Bool)
 ended:(Bool)
 ro:(List UInt8)
 r1:(Int)
 r2:(Int)
 r3:(Int)
 r4:(Int)
 steps:(Int)
 inp:(List UInt8)
 heap:(Int)
 cur:(Option Nat)
 fr:(Int)
 pl:(Int)
 procs:(List ((Int×(Int×Int))))
 nm:(List UInt8)
 data:(List ((List UInt8×(Bool×List (Int)))))
 gl:(List ((Int×Int)))
 bg:(List ((Int×(Int×Int))))
 il:(List ((Int×(Int×(Int×(Int×Int))))))
 ins:(List ((Int×(Int×(Int×(Int×Int))))))
 acc:(Int)
 aux:(Int)
 cos:(List (Int×Nat))
 pool:(List (((Int×(Int×(Int×(Bool×(Bool×(Int×(Int×Int))))))))×Option Nat))
 mem:(List (Int))
 areas:(List (Int))
 out:(List (Int))
abbrev HP0:List (Nat×Ae7):=[(0,.cells 92 [(.ptr 1),(.val (.list (.pair (.int .i64) (.pair (.int .i64) (.pair (.int .i64) (.pair (.int .i64) (.int .i64))))))),(.val (.int .i64)),(.val (.int .i64)),(.same .nilmap)]),(1,.cells 110 [(.val (.int .i64)),(.val .bool),(.ptr 2),(.val (.int .i64)),(.val (.int .i64)),(.val (.list (.pair (.int .i64) (.pair (.int .i64) (.int .i64))))),(.fnp 151 [3,4]),(.fnp 101 [5]),(.fnp 102 [5]),(.slf 6),(.val .bool),(.val .str),(.val (.int .i64)),(.val (.int .i64)),(.val (.int .i64)),(.val (.int .i64)),(.val (.int .i64)),(.same .nilsl),(.same .nilmap),(.val .str),(.val (.int .i64)),(.po 7),(.mp 8),(.vs 9 9),(.slf 10)]),(2,.row 233 (.int .i64)),(3,.cells 27 [(.val .str),(.val (.list (.pair .str (.pair .bool (.list (.int .i64)))))),(.val (.list (.pair (.int .i64) (.int .i64)))),(.val (.list (.pair (.int .i64) (.pair (.int .i64) (.int .i64))))),(.val (.list (.pair (.int .i64) (.pair (.int .i64) (.pair (.int .i64) (.pair (.int .i64) (.int .i64)))))))]),(4,.cells 151 [(.fn 100)]),(5,.cells 85 [(.ptr 0)]),(6,.row 5 (.int .u8)),(7,.pool 211 (.pair (.int .i64) (.pair (.int .i64) (.pair (.int .i64) (.pair .bool (.pair .bool (.pair (.int .i64) (.pair (.int .i64) (.int .i64))))))))),(8,.pmap 107 .i64 7),(9,.cells 234 [(.fn 216),(.fn 216),(.mth 217 [1]),(.mth 218 [1]),(.mth 219 [1]),(.mth 220 [1]),(.mth 221 [1]),(.mth 222 [1]),(.mth 223 [1])]),(10,.row 3 (.int .i64))]
def C85(x:Ahn HP0):S:=⟨x.2.1.1,x.2.1.2.1,x.2.1.2.2.2.2.2.2.2.2.2.2.1,x.2.1.2.2.2.2.2.2.2.2.2.2.2.1,x.2.1.2.2.2.2.2.2.2.2.2.2.2.2.1,x.2.1.2.2.2.2.2.2.2.2.2.2.2.2.2.1,x.2.1.2.2.2.2.2.2.2.2.2.2.2.2.2.2.1,x.2.1.2.2.2.2.2.2.2.2.2.2.2.2.2.2.2.1,x.2.1.2.2.2.2.2.2.2.2.2.2.2.2.2.2.2.2.1,x.2.1.2.2.2.2.2.2.2.2.2.2.2.2.2.2.2.2.2.2.2.1,x.2.1.2.2.2.2.2.2.2.2.2.2.2.2.2.2.2.2.2.2.2.2.1,x.2.1.2.2.2.2.2.2.2.2.2.2.2.2.2.2.2.2.2.2.2.2.2.1,x.2.1.2.2.2.1,x.2.1.2.2.2.2.1,x.2.1.2.2.2.2.2.1,x.2.2.2.1.1,x.2.2.2.1.2.1,x.2.2.2.1.2.2.1,x.2.2.2.1.2.2.2.1,x.2.2.2.1.2.2.2.2.1,x.1.2.1,x.1.2.2.1,x.1.2.2.2.1,x.2.2.2.2.2.2.2.2.1,x.2.2.2.2.2.2.2.1,x.2.2.1,x.2.2.2.2.2.2.2.2.2.2.1,x.2.2.2.2.2.2.1⟩
def Dfs(s:S):Ahn HP0:=(((),s.ins,s.acc,s.aux,(),()),(s.bits,s.big,(),s.fr,s.pl,s.procs,(),(),(),(),s.ended,s.ro,s.r1,s.r2,s.r3,s.r4,s.steps,(),(),s.inp,s.heap,s.cur,(),(),(),()),s.mem,(s.nm,s.data,s.gl,s.bg,s.il,()),((),()),((),()),s.out,s.pool,s.cos,((),(),(),(),(),(),(),(),(),()),s.areas,())
abbrev HP1:List (Nat×Ae7):=[(0,.cells 92 [(.ptr 1),(.val (.list (.pair (.int .i64) (.pair (.int .i64) (.pair (.int .i64) (.pair (.int .i64) (.int .i64))))))),(.val (.int .i64)),(.val (.int .i64)),(.same .nilmap)]),(1,.cells 110 [(.val (.int .i64)),(.val .bool),(.ptr 2),(.val (.int .i64)),(.val (.int .i64)),(.val (.list (.pair (.int .i64) (.pair (.int .i64) (.int .i64))))),(.fnp 151 [3,4]),(.fnp 101 [5]),(.fnp 102 [5]),(.slf 6),(.val .bool),(.val .str),(.val (.int .i64)),(.val (.int .i64)),(.val (.int .i64)),(.val (.int .i64)),(.val (.int .i64)),(.same .nilsl),(.same .nilmap),(.val .str),(.val (.int .i64)),(.po 7),(.mp 8),(.vs 9 9),(.slf 10)]),(2,.row 233 (.int .i64)),(3,.cells 27 [(.val .str),(.val (.list (.pair .str (.pair .bool (.list (.int .i64)))))),(.val (.list (.pair (.int .i64) (.int .i64)))),(.val (.list (.pair (.int .i64) (.pair (.int .i64) (.int .i64))))),(.val (.list (.pair (.int .i64) (.pair (.int .i64) (.pair (.int .i64) (.pair (.int .i64) (.int .i64)))))))]),(4,.cells 151 [(.fn 100)]),(5,.cells 85 [(.ptr 0)]),(6,.row 5 (.int .u8)),(7,.pool 211 (.pair (.int .i64) (.pair (.int .i64) (.pair (.int .i64) (.pair .bool (.pair .bool (.pair (.int .i64) (.pair (.int .i64) (.int .i64))))))))),(8,.pmap 107 .i64 7),(9,.cells 234 [(.fn 216),(.fn 216),(.mth 217 [1]),(.mth 218 [1]),(.mth 219 [1]),(.mth 220 [1]),(.mth 221 [1]),(.mth 222 [1]),(.mth 223 [1])]),(10,.row 3 (.int .i64)),(32,.fmap 90 .i64 [(1:Int),(2:Int),(3:Int),(4:Int),(5:Int),(6:Int),(7:Int),(8:Int),(9:Int),(10:Int),(11:Int),(12:Int),(13:Int),(14:Int)] [(.fnp 153 [33]),(.fnp 154 [33]),(.fnp 155 [33]),(.fnp 156 [33]),(.fnp 157 [33]),(.fnp 158 [33]),(.fnp 159 [33]),(.fnp 160 [33]),(.fnp 161 [34]),(.fnp 162 [34,33]),(.fnp 163 [34,33]),(.fnp 164 [33]),(.fnp 165 [33]),(.fnp 166 [33,34])]),(33,.cells 85 [(.ptr 0)]),(34,.cells 190 [(.fnp 152 [33])])]
def Dfu(x:Ahn HP1):S:=⟨x.2.1.1,x.2.1.2.1,x.2.1.2.2.2.2.2.2.2.2.2.2.1,x.2.1.2.2.2.2.2.2.2.2.2.2.2.1,x.2.1.2.2.2.2.2.2.2.2.2.2.2.2.1,x.2.1.2.2.2.2.2.2.2.2.2.2.2.2.2.1,x.2.1.2.2.2.2.2.2.2.2.2.2.2.2.2.2.1,x.2.1.2.2.2.2.2.2.2.2.2.2.2.2.2.2.2.1,x.2.1.2.2.2.2.2.2.2.2.2.2.2.2.2.2.2.2.1,x.2.1.2.2.2.2.2.2.2.2.2.2.2.2.2.2.2.2.2.2.2.1,x.2.1.2.2.2.2.2.2.2.2.2.2.2.2.2.2.2.2.2.2.2.2.1,x.2.1.2.2.2.2.2.2.2.2.2.2.2.2.2.2.2.2.2.2.2.2.2.1,x.2.1.2.2.2.1,x.2.1.2.2.2.2.1,x.2.1.2.2.2.2.2.1,x.2.2.2.1.1,x.2.2.2.1.2.1,x.2.2.2.1.2.2.1,x.2.2.2.1.2.2.2.1,x.2.2.2.1.2.2.2.2.1,x.1.2.1,x.1.2.2.1,x.1.2.2.2.1,x.2.2.2.2.2.2.2.2.1,x.2.2.2.2.2.2.2.1,x.2.2.1,x.2.2.2.2.2.2.2.2.2.2.1,x.2.2.2.2.2.2.1⟩
def C45(s:S):Ahn HP1:=(((),s.ins,s.acc,s.aux,(),()),(s.bits,s.big,(),s.fr,s.pl,s.procs,(),(),(),(),s.ended,s.ro,s.r1,s.r2,s.r3,s.r4,s.steps,(),(),s.inp,s.heap,s.cur,(),(),(),()),s.mem,(s.nm,s.data,s.gl,s.bg,s.il,()),((),()),((),()),s.out,s.pool,s.cos,((),(),(),(),(),(),(),(),(),()),s.areas,((),(),(),(),(),(),(),(),(),(),(),(),(),(),()),((),()),((),()),())
abbrev HP2:List (Nat×Ae7):=[(32,.cells 92 [(.ptr 33),(.val (.list (.pair (.int .i64) (.pair (.int .i64) (.pair (.int .i64) (.pair (.int .i64) (.int .i64))))))),(.val (.int .i64)),(.val (.int .i64)),(.mp 34)]),(33,.cells 110 [(.val (.int .i64)),(.val .bool),(.ptr 35),(.val (.int .i64)),(.val (.int .i64)),(.val (.list (.pair (.int .i64) (.pair (.int .i64) (.int .i64))))),(.fnp 151 [36,37]),(.fnp 101 [38]),(.fnp 102 [38]),(.slf 39),(.val .bool),(.val .str),(.val (.int .i64)),(.val (.int .i64)),(.val (.int .i64)),(.val (.int .i64)),(.val (.int .i64)),(.same .nilsl),(.same .nilmap),(.val .str),(.val (.int .i64)),(.po 41),(.mp 40),(.vs 42 9),(.slf 43)]),(34,.fmap 90 .i64 [(1:Int),(2:Int),(3:Int),(4:Int),(5:Int),(6:Int),(7:Int),(8:Int),(9:Int),(10:Int),(11:Int),(12:Int),(13:Int),(14:Int)] [(.fnp 153 [44]),(.fnp 154 [44]),(.fnp 155 [44]),(.fnp 156 [44]),(.fnp 157 [44]),(.fnp 158 [44]),(.fnp 159 [44]),(.fnp 160 [44]),(.fnp 161 [45]),(.fnp 162 [45,44]),(.fnp 163 [45,44]),(.fnp 164 [44]),(.fnp 165 [44]),(.fnp 166 [44,45])]),(35,.row 233 (.int .i64)),(36,.cells 27 [(.val .str),(.val (.list (.pair .str (.pair .bool (.list (.int .i64)))))),(.val (.list (.pair (.int .i64) (.int .i64)))),(.val (.list (.pair (.int .i64) (.pair (.int .i64) (.int .i64))))),(.val (.list (.pair (.int .i64) (.pair (.int .i64) (.pair (.int .i64) (.pair (.int .i64) (.int .i64)))))))]),(37,.cells 151 [(.fn 100)]),(38,.cells 85 [(.ptr 32)]),(39,.row 5 (.int .u8)),(40,.pmap 107 .i64 41),(41,.pool 211 (.pair (.int .i64) (.pair (.int .i64) (.pair (.int .i64) (.pair .bool (.pair .bool (.pair (.int .i64) (.pair (.int .i64) (.int .i64))))))))),(42,.cells 234 [(.fn 216),(.fn 216),(.mth 217 [33]),(.mth 218 [33]),(.mth 219 [33]),(.mth 220 [33]),(.mth 221 [33]),(.mth 222 [33]),(.mth 223 [33])]),(43,.row 3 (.int .i64)),(44,.cells 85 [(.ptr 32)]),(45,.cells 190 [(.fnp 152 [44])])]
def Dfv(x:Ahn HP2):S:=⟨x.2.1.1,x.2.1.2.1,x.2.1.2.2.2.2.2.2.2.2.2.2.1,x.2.1.2.2.2.2.2.2.2.2.2.2.2.1,x.2.1.2.2.2.2.2.2.2.2.2.2.2.2.1,x.2.1.2.2.2.2.2.2.2.2.2.2.2.2.2.1,x.2.1.2.2.2.2.2.2.2.2.2.2.2.2.2.2.1,x.2.1.2.2.2.2.2.2.2.2.2.2.2.2.2.2.2.1,x.2.1.2.2.2.2.2.2.2.2.2.2.2.2.2.2.2.2.1,x.2.1.2.2.2.2.2.2.2.2.2.2.2.2.2.2.2.2.2.2.2.1,x.2.1.2.2.2.2.2.2.2.2.2.2.2.2.2.2.2.2.2.2.2.2.1,x.2.1.2.2.2.2.2.2.2.2.2.2.2.2.2.2.2.2.2.2.2.2.2.1,x.2.1.2.2.2.1,x.2.1.2.2.2.2.1,x.2.1.2.2.2.2.2.1,x.2.2.2.2.1.1,x.2.2.2.2.1.2.1,x.2.2.2.2.1.2.2.1,x.2.2.2.2.1.2.2.2.1,x.2.2.2.2.1.2.2.2.2.1,x.1.2.1,x.1.2.2.1,x.1.2.2.2.1,x.2.2.2.2.2.2.2.2.1,x.2.2.2.2.2.2.2.2.2.1,x.2.2.2.1,x.2.2.2.2.2.2.2.2.2.2.2.1,x.2.2.2.2.2.2.2.1⟩
def Cu3(s:S):Ahn HP2:=(((),s.ins,s.acc,s.aux,(),()),(s.bits,s.big,(),s.fr,s.pl,s.procs,(),(),(),(),s.ended,s.ro,s.r1,s.r2,s.r3,s.r4,s.steps,(),(),s.inp,s.heap,s.cur,(),(),(),()),((),(),(),(),(),(),(),(),(),(),(),(),(),(),()),s.mem,(s.nm,s.data,s.gl,s.bg,s.il,()),((),()),((),()),s.out,s.cos,s.pool,((),(),(),(),(),(),(),(),(),()),s.areas,((),()),((),()),())
abbrev HP3:List (Nat×Ae7):=[(0,.cells 110 [(.val (.int .i64)),(.val .bool),(.ptr 1),(.val (.int .i64)),(.val (.int .i64)),(.val (.list (.pair (.int .i64) (.pair (.int .i64) (.int .i64))))),(.fnp 151 [2,3]),(.fnp 101 [4]),(.fnp 102 [4]),(.slf 9),(.val .bool),(.val .str),(.val (.int .i64)),(.val (.int .i64)),(.val (.int .i64)),(.val (.int .i64)),(.val (.int .i64)),(.same .nilsl),(.same .nilmap),(.val .str),(.val (.int .i64)),(.po 10),(.mp 11),(.vs 12 9),(.slf 13)]),(1,.row 233 (.int .i64)),(2,.cells 27 [(.val .str),(.val (.list (.pair .str (.pair .bool (.list (.int .i64)))))),(.val (.list (.pair (.int .i64) (.int .i64)))),(.val (.list (.pair (.int .i64) (.pair (.int .i64) (.int .i64))))),(.val (.list (.pair (.int .i64) (.pair (.int .i64) (.pair (.int .i64) (.pair (.int .i64) (.int .i64)))))))]),(3,.cells 151 [(.fn 100)]),(4,.cells 85 [(.ptr 5)]),(5,.cells 92 [(.ptr 0),(.val (.list (.pair (.int .i64) (.pair (.int .i64) (.pair (.int .i64) (.pair (.int .i64) (.int .i64))))))),(.val (.int .i64)),(.val (.int .i64)),(.mp 6)]),(6,.fmap 90 .i64 [(1:Int),(2:Int),(3:Int),(4:Int),(5:Int),(6:Int),(7:Int),(8:Int),(9:Int),(10:Int),(11:Int),(12:Int),(13:Int),(14:Int)] [(.fnp 153 [7]),(.fnp 154 [7]),(.fnp 155 [7]),(.fnp 156 [7]),(.fnp 157 [7]),(.fnp 158 [7]),(.fnp 159 [7]),(.fnp 160 [7]),(.fnp 161 [8]),(.fnp 162 [8,7]),(.fnp 163 [8,7]),(.fnp 164 [7]),(.fnp 165 [7]),(.fnp 166 [7,8])]),(7,.cells 85 [(.ptr 5)]),(8,.cells 190 [(.fnp 152 [7])]),(9,.row 5 (.int .u8)),(10,.pool 211 (.pair (.int .i64) (.pair (.int .i64) (.pair (.int .i64) (.pair .bool (.pair .bool (.pair (.int .i64) (.pair (.int .i64) (.int .i64))))))))),(11,.pmap 107 .i64 10),(12,.cells 234 [(.fn 216),(.fn 216),(.mth 217 [0]),(.mth 218 [0]),(.mth 219 [0]),(.mth 220 [0]),(.mth 221 [0]),(.mth 222 [0]),(.mth 223 [0])]),(13,.row 3 (.int .i64))]
def Acb(x:Ahn HP3):S:=⟨x.1.1,x.1.2.1,x.1.2.2.2.2.2.2.2.2.2.2.1,x.1.2.2.2.2.2.2.2.2.2.2.2.1,x.1.2.2.2.2.2.2.2.2.2.2.2.2.1,x.1.2.2.2.2.2.2.2.2.2.2.2.2.2.1,x.1.2.2.2.2.2.2.2.2.2.2.2.2.2.2.1,x.1.2.2.2.2.2.2.2.2.2.2.2.2.2.2.2.1,x.1.2.2.2.2.2.2.2.2.2.2.2.2.2.2.2.2.1,x.1.2.2.2.2.2.2.2.2.2.2.2.2.2.2.2.2.2.2.2.1,x.1.2.2.2.2.2.2.2.2.2.2.2.2.2.2.2.2.2.2.2.2.1,x.1.2.2.2.2.2.2.2.2.2.2.2.2.2.2.2.2.2.2.2.2.2.1,x.1.2.2.2.1,x.1.2.2.2.2.1,x.1.2.2.2.2.2.1,x.2.2.1.1,x.2.2.1.2.1,x.2.2.1.2.2.1,x.2.2.1.2.2.2.1,x.2.2.1.2.2.2.2.1,x.2.2.2.2.2.1.2.1,x.2.2.2.2.2.1.2.2.1,x.2.2.2.2.2.1.2.2.2.1,x.2.2.2.2.2.2.2.2.2.2.2.1,x.2.2.2.2.2.2.2.2.2.2.1,x.2.1,x.2.2.2.2.2.2.2.2.2.2.2.2.2.1,x.2.2.2.2.2.2.2.2.2.1⟩
def Abh(s:S):Ahn HP3:=((s.bits,s.big,(),s.fr,s.pl,s.procs,(),(),(),(),s.ended,s.ro,s.r1,s.r2,s.r3,s.r4,s.steps,(),(),s.inp,s.heap,s.cur,(),(),(),()),s.mem,(s.nm,s.data,s.gl,s.bg,s.il,()),((),()),((),()),((),s.ins,s.acc,s.aux,(),()),((),(),(),(),(),(),(),(),(),(),(),(),(),(),()),((),()),((),()),s.out,s.pool,s.cos,((),(),(),(),(),(),(),(),(),()),s.areas,())
abbrev HP4:List (Nat×Ae7):=[(0,.cells 85 [(.ptr 1)]),(1,.cells 92 [(.ptr 2),(.val (.list (.pair (.int .i64) (.pair (.int .i64) (.pair (.int .i64) (.pair (.int .i64) (.int .i64))))))),(.val (.int .i64)),(.val (.int .i64)),(.mp 12)]),(2,.cells 110 [(.val (.int .i64)),(.val .bool),(.ptr 3),(.val (.int .i64)),(.val (.int .i64)),(.val (.list (.pair (.int .i64) (.pair (.int .i64) (.int .i64))))),(.fnp 151 [4,5]),(.fnp 101 [6]),(.fnp 102 [6]),(.slf 7),(.val .bool),(.val .str),(.val (.int .i64)),(.val (.int .i64)),(.val (.int .i64)),(.val (.int .i64)),(.val (.int .i64)),(.same .nilsl),(.same .nilmap),(.val .str),(.val (.int .i64)),(.po 8),(.mp 9),(.vs 10 9),(.slf 11)]),(3,.row 233 (.int .i64)),(4,.cells 27 [(.val .str),(.val (.list (.pair .str (.pair .bool (.list (.int .i64)))))),(.val (.list (.pair (.int .i64) (.int .i64)))),(.val (.list (.pair (.int .i64) (.pair (.int .i64) (.int .i64))))),(.val (.list (.pair (.int .i64) (.pair (.int .i64) (.pair (.int .i64) (.pair (.int .i64) (.int .i64)))))))]),(5,.cells 151 [(.fn 100)]),(6,.cells 85 [(.ptr 1)]),(7,.row 5 (.int .u8)),(8,.pool 211 (.pair (.int .i64) (.pair (.int .i64) (.pair (.int .i64) (.pair .bool (.pair .bool (.pair (.int .i64) (.pair (.int .i64) (.int .i64))))))))),(9,.pmap 107 .i64 8),(10,.cells 234 [(.fn 216),(.fn 216),(.mth 217 [2]),(.mth 218 [2]),(.mth 219 [2]),(.mth 220 [2]),(.mth 221 [2]),(.mth 222 [2]),(.mth 223 [2])]),(11,.row 3 (.int .i64)),(12,.fmap 90 .i64 [(1:Int),(2:Int),(3:Int),(4:Int),(5:Int),(6:Int),(7:Int),(8:Int),(9:Int),(10:Int),(11:Int),(12:Int),(13:Int),(14:Int)] [(.fnp 153 [0]),(.fnp 154 [0]),(.fnp 155 [0]),(.fnp 156 [0]),(.fnp 157 [0]),(.fnp 158 [0]),(.fnp 159 [0]),(.fnp 160 [0]),(.fnp 161 [13]),(.fnp 162 [13,0]),(.fnp 163 [13,0]),(.fnp 164 [0]),(.fnp 165 [0]),(.fnp 166 [0,13])]),(13,.cells 190 [(.fnp 152 [0])])]
def Ait(x:Ahn HP4):S:=⟨x.2.2.1.1,x.2.2.1.2.1,x.2.2.1.2.2.2.2.2.2.2.2.2.2.1,x.2.2.1.2.2.2.2.2.2.2.2.2.2.2.1,x.2.2.1.2.2.2.2.2.2.2.2.2.2.2.2.1,x.2.2.1.2.2.2.2.2.2.2.2.2.2.2.2.2.1,x.2.2.1.2.2.2.2.2.2.2.2.2.2.2.2.2.2.1,x.2.2.1.2.2.2.2.2.2.2.2.2.2.2.2.2.2.2.1,x.2.2.1.2.2.2.2.2.2.2.2.2.2.2.2.2.2.2.2.1,x.2.2.1.2.2.2.2.2.2.2.2.2.2.2.2.2.2.2.2.2.2.2.1,x.2.2.1.2.2.2.2.2.2.2.2.2.2.2.2.2.2.2.2.2.2.2.2.1,x.2.2.1.2.2.2.2.2.2.2.2.2.2.2.2.2.2.2.2.2.2.2.2.2.1,x.2.2.1.2.2.2.1,x.2.2.1.2.2.2.2.1,x.2.2.1.2.2.2.2.2.1,x.2.2.2.2.1.1,x.2.2.2.2.1.2.1,x.2.2.2.2.1.2.2.1,x.2.2.2.2.1.2.2.2.1,x.2.2.2.2.1.2.2.2.2.1,x.2.1.2.1,x.2.1.2.2.1,x.2.1.2.2.2.1,x.2.2.2.2.2.2.2.2.2.1,x.2.2.2.2.2.2.2.2.1,x.2.2.2.1,x.2.2.2.2.2.2.2.2.2.2.2.1,x.2.2.2.2.2.2.2.1⟩
def Agx(s:S):Ahn HP4:=(((),()),((),s.ins,s.acc,s.aux,(),()),(s.bits,s.big,(),s.fr,s.pl,s.procs,(),(),(),(),s.ended,s.ro,s.r1,s.r2,s.r3,s.r4,s.steps,(),(),s.inp,s.heap,s.cur,(),(),(),()),s.mem,(s.nm,s.data,s.gl,s.bg,s.il,()),((),()),((),()),s.out,s.pool,s.cos,((),(),(),(),(),(),(),(),(),()),s.areas,((),(),(),(),(),(),(),(),(),(),(),(),(),(),()),((),()),())
abbrev HP5:List (Nat×Ae7):=[(0,.cells 190 [(.fnp 152 [1])]),(1,.cells 85 [(.ptr 2)]),(2,.cells 92 [(.ptr 3),(.val (.list (.pair (.int .i64) (.pair (.int .i64) (.pair (.int .i64) (.pair (.int .i64) (.int .i64))))))),(.val (.int .i64)),(.val (.int .i64)),(.mp 13)]),(3,.cells 110 [(.val (.int .i64)),(.val .bool),(.ptr 4),(.val (.int .i64)),(.val (.int .i64)),(.val (.list (.pair (.int .i64) (.pair (.int .i64) (.int .i64))))),(.fnp 151 [5,6]),(.fnp 101 [7]),(.fnp 102 [7]),(.slf 8),(.val .bool),(.val .str),(.val (.int .i64)),(.val (.int .i64)),(.val (.int .i64)),(.val (.int .i64)),(.val (.int .i64)),(.same .nilsl),(.same .nilmap),(.val .str),(.val (.int .i64)),(.po 9),(.mp 10),(.vs 11 9),(.slf 12)]),(4,.row 233 (.int .i64)),(5,.cells 27 [(.val .str),(.val (.list (.pair .str (.pair .bool (.list (.int .i64)))))),(.val (.list (.pair (.int .i64) (.int .i64)))),(.val (.list (.pair (.int .i64) (.pair (.int .i64) (.int .i64))))),(.val (.list (.pair (.int .i64) (.pair (.int .i64) (.pair (.int .i64) (.pair (.int .i64) (.int .i64)))))))]),(6,.cells 151 [(.fn 100)]),(7,.cells 85 [(.ptr 2)]),(8,.row 5 (.int .u8)),(9,.pool 211 (.pair (.int .i64) (.pair (.int .i64) (.pair (.int .i64) (.pair .bool (.pair .bool (.pair (.int .i64) (.pair (.int .i64) (.int .i64))))))))),(10,.pmap 107 .i64 9),(11,.cells 234 [(.fn 216),(.fn 216),(.mth 217 [3]),(.mth 218 [3]),(.mth 219 [3]),(.mth 220 [3]),(.mth 221 [3]),(.mth 222 [3]),(.mth 223 [3])]),(12,.row 3 (.int .i64)),(13,.fmap 90 .i64 [(1:Int),(2:Int),(3:Int),(4:Int),(5:Int),(6:Int),(7:Int),(8:Int),(9:Int),(10:Int),(11:Int),(12:Int),(13:Int),(14:Int)] [(.fnp 153 [1]),(.fnp 154 [1]),(.fnp 155 [1]),(.fnp 156 [1]),(.fnp 157 [1]),(.fnp 158 [1]),(.fnp 159 [1]),(.fnp 160 [1]),(.fnp 161 [0]),(.fnp 162 [0,1]),(.fnp 163 [0,1]),(.fnp 164 [1]),(.fnp 165 [1]),(.fnp 166 [1,0])])]
def Bob(x:Ahn HP5):S:=⟨x.2.2.2.1.1,x.2.2.2.1.2.1,x.2.2.2.1.2.2.2.2.2.2.2.2.2.2.1,x.2.2.2.1.2.2.2.2.2.2.2.2.2.2.2.1,x.2.2.2.1.2.2.2.2.2.2.2.2.2.2.2.2.1,x.2.2.2.1.2.2.2.2.2.2.2.2.2.2.2.2.2.1,x.2.2.2.1.2.2.2.2.2.2.2.2.2.2.2.2.2.2.1,x.2.2.2.1.2.2.2.2.2.2.2.2.2.2.2.2.2.2.2.1,x.2.2.2.1.2.2.2.2.2.2.2.2.2.2.2.2.2.2.2.2.1,x.2.2.2.1.2.2.2.2.2.2.2.2.2.2.2.2.2.2.2.2.2.2.2.1,x.2.2.2.1.2.2.2.2.2.2.2.2.2.2.2.2.2.2.2.2.2.2.2.2.1,x.2.2.2.1.2.2.2.2.2.2.2.2.2.2.2.2.2.2.2.2.2.2.2.2.2.1,x.2.2.2.1.2.2.2.1,x.2.2.2.1.2.2.2.2.1,x.2.2.2.1.2.2.2.2.2.1,x.2.2.2.2.2.1.1,x.2.2.2.2.2.1.2.1,x.2.2.2.2.2.1.2.2.1,x.2.2.2.2.2.1.2.2.2.1,x.2.2.2.2.2.1.2.2.2.2.1,x.2.2.1.2.1,x.2.2.1.2.2.1,x.2.2.1.2.2.2.1,x.2.2.2.2.2.2.2.2.2.2.1,x.2.2.2.2.2.2.2.2.2.1,x.2.2.2.2.1,x.2.2.2.2.2.2.2.2.2.2.2.2.1,x.2.2.2.2.2.2.2.2.1⟩
def Bc5(s:S):Ahn HP5:=(((),()),((),()),((),s.ins,s.acc,s.aux,(),()),(s.bits,s.big,(),s.fr,s.pl,s.procs,(),(),(),(),s.ended,s.ro,s.r1,s.r2,s.r3,s.r4,s.steps,(),(),s.inp,s.heap,s.cur,(),(),(),()),s.mem,(s.nm,s.data,s.gl,s.bg,s.il,()),((),()),((),()),s.out,s.pool,s.cos,((),(),(),(),(),(),(),(),(),()),s.areas,((),(),(),(),(),(),(),(),(),(),(),(),(),(),()),())
abbrev HP6:List (Nat×Ae7):=[(0,.cells 110 [(.val (.int .i64)),(.val .bool),(.ptr 1),(.val (.int .i64)),(.val (.int .i64)),(.val (.list (.pair (.int .i64) (.pair (.int .i64) (.int .i64))))),(.fnp 151 [2,3]),(.fnp 101 [4]),(.fnp 102 [4]),(.slf 9),(.val .bool),(.val .str),(.val (.int .i64)),(.val (.int .i64)),(.val (.int .i64)),(.val (.int .i64)),(.val (.int .i64)),(.same .nilsl),(.same .nilmap),(.val .str),(.val (.int .i64)),(.po 10),(.mp 11),(.vs 12 9),(.slf 13)]),(1,.row 233 (.int .i64)),(2,.cells 27 [(.val .str),(.val (.list (.pair .str (.pair .bool (.list (.int .i64)))))),(.val (.list (.pair (.int .i64) (.int .i64)))),(.val (.list (.pair (.int .i64) (.pair (.int .i64) (.int .i64))))),(.val (.list (.pair (.int .i64) (.pair (.int .i64) (.pair (.int .i64) (.pair (.int .i64) (.int .i64)))))))]),(3,.cells 151 [(.fn 100)]),(4,.cells 85 [(.ptr 5)]),(5,.cells 92 [(.ptr 0),(.val (.list (.pair (.int .i64) (.pair (.int .i64) (.pair (.int .i64) (.pair (.int .i64) (.int .i64))))))),(.val (.int .i64)),(.val (.int .i64)),(.mp 6)]),(6,.fmap 90 .i64 [(1:Int),(2:Int),(3:Int),(4:Int),(5:Int),(6:Int),(7:Int),(8:Int),(9:Int),(10:Int),(11:Int),(12:Int),(13:Int),(14:Int)] [(.fnp 153 [7]),(.fnp 154 [7]),(.fnp 155 [7]),(.fnp 156 [7]),(.fnp 157 [7]),(.fnp 158 [7]),(.fnp 159 [7]),(.fnp 160 [7]),(.fnp 161 [8]),(.fnp 162 [8,7]),(.fnp 163 [8,7]),(.fnp 164 [7]),(.fnp 165 [7]),(.fnp 166 [7,8])]),(7,.cells 85 [(.ptr 5)]),(8,.cells 190 [(.fnp 152 [7])]),(9,.row 5 (.int .u8)),(10,.pool 211 (.pair (.int .i64) (.pair (.int .i64) (.pair (.int .i64) (.pair .bool (.pair .bool (.pair (.int .i64) (.pair (.int .i64) (.int .i64))))))))),(11,.pmap 107 .i64 10),(12,.cells 234 [(.fn 216),(.fn 216),(.mth 217 [0]),(.mth 218 [0]),(.mth 219 [0]),(.mth 220 [0]),(.mth 221 [0]),(.mth 222 [0]),(.mth 223 [0])]),(13,.row 3 (.int .i64)),(32,.cells 89 [(.ptr 0)]),(33,.cells 3 [(.val (.int .i64))])]
def Dfw(x:Ahn HP6):S:=⟨x.1.1,x.1.2.1,x.1.2.2.2.2.2.2.2.2.2.2.1,x.1.2.2.2.2.2.2.2.2.2.2.2.1,x.1.2.2.2.2.2.2.2.2.2.2.2.2.1,x.1.2.2.2.2.2.2.2.2.2.2.2.2.2.1,x.1.2.2.2.2.2.2.2.2.2.2.2.2.2.2.1,x.1.2.2.2.2.2.2.2.2.2.2.2.2.2.2.2.1,x.1.2.2.2.2.2.2.2.2.2.2.2.2.2.2.2.2.1,x.1.2.2.2.2.2.2.2.2.2.2.2.2.2.2.2.2.2.2.2.1,x.1.2.2.2.2.2.2.2.2.2.2.2.2.2.2.2.2.2.2.2.2.1,x.1.2.2.2.2.2.2.2.2.2.2.2.2.2.2.2.2.2.2.2.2.2.1,x.1.2.2.2.1,x.1.2.2.2.2.1,x.1.2.2.2.2.2.1,x.2.2.1.1,x.2.2.1.2.1,x.2.2.1.2.2.1,x.2.2.1.2.2.2.1,x.2.2.1.2.2.2.2.1,x.2.2.2.2.2.1.2.1,x.2.2.2.2.2.1.2.2.1,x.2.2.2.2.2.1.2.2.2.1,x.2.2.2.2.2.2.2.2.2.2.2.1,x.2.2.2.2.2.2.2.2.2.2.1,x.2.1,x.2.2.2.2.2.2.2.2.2.2.2.2.2.1,x.2.2.2.2.2.2.2.2.2.1⟩
def C46(s:S)(e0:(Int)):Ahn HP6:=((s.bits,s.big,(),s.fr,s.pl,s.procs,(),(),(),(),s.ended,s.ro,s.r1,s.r2,s.r3,s.r4,s.steps,(),(),s.inp,s.heap,s.cur,(),(),(),()),s.mem,(s.nm,s.data,s.gl,s.bg,s.il,()),((),()),((),()),((),s.ins,s.acc,s.aux,(),()),((),(),(),(),(),(),(),(),(),(),(),(),(),(),()),((),()),((),()),s.out,s.pool,s.cos,((),(),(),(),(),(),(),(),(),()),s.areas,((),()),(e0,()),())
abbrev HP7:List (Nat×Ae7):=[(0,.cells 89 [(.ptr 1)]),(1,.cells 110 [(.val (.int .i64)),(.val .bool),(.ptr 2),(.val (.int .i64)),(.val (.int .i64)),(.val (.list (.pair (.int .i64) (.pair (.int .i64) (.int .i64))))),(.fnp 151 [3,4]),(.fnp 101 [5]),(.fnp 102 [5]),(.slf 10),(.val .bool),(.val .str),(.val (.int .i64)),(.val (.int .i64)),(.val (.int .i64)),(.val (.int .i64)),(.val (.int .i64)),(.same .nilsl),(.same .nilmap),(.val .str),(.val (.int .i64)),(.po 11),(.mp 12),(.vs 13 9),(.slf 14)]),(2,.row 233 (.int .i64)),(3,.cells 27 [(.val .str),(.val (.list (.pair .str (.pair .bool (.list (.int .i64)))))),(.val (.list (.pair (.int .i64) (.int .i64)))),(.val (.list (.pair (.int .i64) (.pair (.int .i64) (.int .i64))))),(.val (.list (.pair (.int .i64) (.pair (.int .i64) (.pair (.int .i64) (.pair (.int .i64) (.int .i64)))))))]),(4,.cells 151 [(.fn 100)]),(5,.cells 85 [(.ptr 6)]),(6,.cells 92 [(.ptr 1),(.val (.list (.pair (.int .i64) (.pair (.int .i64) (.pair (.int .i64) (.pair (.int .i64) (.int .i64))))))),(.val (.int .i64)),(.val (.int .i64)),(.mp 7)]),(7,.fmap 90 .i64 [(1:Int),(2:Int),(3:Int),(4:Int),(5:Int),(6:Int),(7:Int),(8:Int),(9:Int),(10:Int),(11:Int),(12:Int),(13:Int),(14:Int)] [(.fnp 153 [8]),(.fnp 154 [8]),(.fnp 155 [8]),(.fnp 156 [8]),(.fnp 157 [8]),(.fnp 158 [8]),(.fnp 159 [8]),(.fnp 160 [8]),(.fnp 161 [9]),(.fnp 162 [9,8]),(.fnp 163 [9,8]),(.fnp 164 [8]),(.fnp 165 [8]),(.fnp 166 [8,9])]),(8,.cells 85 [(.ptr 6)]),(9,.cells 190 [(.fnp 152 [8])]),(10,.row 5 (.int .u8)),(11,.pool 211 (.pair (.int .i64) (.pair (.int .i64) (.pair (.int .i64) (.pair .bool (.pair .bool (.pair (.int .i64) (.pair (.int .i64) (.int .i64))))))))),(12,.pmap 107 .i64 11),(13,.cells 234 [(.fn 216),(.fn 216),(.mth 217 [1]),(.mth 218 [1]),(.mth 219 [1]),(.mth 220 [1]),(.mth 221 [1]),(.mth 222 [1]),(.mth 223 [1])]),(14,.row 3 (.int .i64)),(15,.cells 3 [(.val (.int .i64))])]
def Cjf(x:Ahn HP7):S:=⟨x.2.1.1,x.2.1.2.1,x.2.1.2.2.2.2.2.2.2.2.2.2.1,x.2.1.2.2.2.2.2.2.2.2.2.2.2.1,x.2.1.2.2.2.2.2.2.2.2.2.2.2.2.1,x.2.1.2.2.2.2.2.2.2.2.2.2.2.2.2.1,x.2.1.2.2.2.2.2.2.2.2.2.2.2.2.2.2.1,x.2.1.2.2.2.2.2.2.2.2.2.2.2.2.2.2.2.1,x.2.1.2.2.2.2.2.2.2.2.2.2.2.2.2.2.2.2.1,x.2.1.2.2.2.2.2.2.2.2.2.2.2.2.2.2.2.2.2.2.2.1,x.2.1.2.2.2.2.2.2.2.2.2.2.2.2.2.2.2.2.2.2.2.2.1,x.2.1.2.2.2.2.2.2.2.2.2.2.2.2.2.2.2.2.2.2.2.2.2.1,x.2.1.2.2.2.1,x.2.1.2.2.2.2.1,x.2.1.2.2.2.2.2.1,x.2.2.2.1.1,x.2.2.2.1.2.1,x.2.2.2.1.2.2.1,x.2.2.2.1.2.2.2.1,x.2.2.2.1.2.2.2.2.1,x.2.2.2.2.2.2.1.2.1,x.2.2.2.2.2.2.1.2.2.1,x.2.2.2.2.2.2.1.2.2.2.1,x.2.2.2.2.2.2.2.2.2.2.2.2.1,x.2.2.2.2.2.2.2.2.2.2.2.1,x.2.2.1,x.2.2.2.2.2.2.2.2.2.2.2.2.2.2.1,x.2.2.2.2.2.2.2.2.2.2.1⟩
def B63(s:S)(e0:(Int)):Ahn HP7:=(((),()),(s.bits,s.big,(),s.fr,s.pl,s.procs,(),(),(),(),s.ended,s.ro,s.r1,s.r2,s.r3,s.r4,s.steps,(),(),s.inp,s.heap,s.cur,(),(),(),()),s.mem,(s.nm,s.data,s.gl,s.bg,s.il,()),((),()),((),()),((),s.ins,s.acc,s.aux,(),()),((),(),(),(),(),(),(),(),(),(),(),(),(),(),()),((),()),((),()),s.out,s.pool,s.cos,((),(),(),(),(),(),(),(),(),()),s.areas,(e0,()),())
abbrev HP8:List (Nat×Ae7):=[(0,.cells 110 [(.val (.int .i64)),(.val .bool),(.ptr 1),(.val (.int .i64)),(.val (.int .i64)),(.val (.list (.pair (.int .i64) (.pair (.int .i64) (.int .i64))))),(.fnp 151 [2,3]),(.fnp 101 [4]),(.fnp 102 [4]),(.slf 9),(.val .bool),(.val .str),(.val (.int .i64)),(.val (.int .i64)),(.val (.int .i64)),(.val (.int .i64)),(.val (.int .i64)),(.same .nilsl),(.same .nilmap),(.val .str),(.val (.int .i64)),(.po 10),(.mp 11),(.vs 12 9),(.slf 13)]),(1,.row 233 (.int .i64)),(2,.cells 27 [(.val .str),(.val (.list (.pair .str (.pair .bool (.list (.int .i64)))))),(.val (.list (.pair (.int .i64) (.int .i64)))),(.val (.list (.pair (.int .i64) (.pair (.int .i64) (.int .i64))))),(.val (.list (.pair (.int .i64) (.pair (.int .i64) (.pair (.int .i64) (.pair (.int .i64) (.int .i64)))))))]),(3,.cells 151 [(.fn 100)]),(4,.cells 85 [(.ptr 5)]),(5,.cells 92 [(.ptr 0),(.val (.list (.pair (.int .i64) (.pair (.int .i64) (.pair (.int .i64) (.pair (.int .i64) (.int .i64))))))),(.val (.int .i64)),(.val (.int .i64)),(.mp 6)]),(6,.fmap 90 .i64 [(1:Int),(2:Int),(3:Int),(4:Int),(5:Int),(6:Int),(7:Int),(8:Int),(9:Int),(10:Int),(11:Int),(12:Int),(13:Int),(14:Int)] [(.fnp 153 [7]),(.fnp 154 [7]),(.fnp 155 [7]),(.fnp 156 [7]),(.fnp 157 [7]),(.fnp 158 [7]),(.fnp 159 [7]),(.fnp 160 [7]),(.fnp 161 [8]),(.fnp 162 [8,7]),(.fnp 163 [8,7]),(.fnp 164 [7]),(.fnp 165 [7]),(.fnp 166 [7,8])]),(7,.cells 85 [(.ptr 5)]),(8,.cells 190 [(.fnp 152 [7])]),(9,.row 5 (.int .u8)),(10,.pool 211 (.pair (.int .i64) (.pair (.int .i64) (.pair (.int .i64) (.pair .bool (.pair .bool (.pair (.int .i64) (.pair (.int .i64) (.int .i64))))))))),(11,.pmap 107 .i64 10),(12,.cells 234 [(.fn 216),(.fn 216),(.mth 217 [0]),(.mth 218 [0]),(.mth 219 [0]),(.mth 220 [0]),(.mth 221 [0]),(.mth 222 [0]),(.mth 223 [0])]),(13,.row 3 (.int .i64)),(14,.cells 89 [(.ptr 0)]),(15,.cells 3 [(.val (.int .i64))])]
def Aho(x:Ahn HP8):S:=⟨x.1.1,x.1.2.1,x.1.2.2.2.2.2.2.2.2.2.2.1,x.1.2.2.2.2.2.2.2.2.2.2.2.1,x.1.2.2.2.2.2.2.2.2.2.2.2.2.1,x.1.2.2.2.2.2.2.2.2.2.2.2.2.2.1,x.1.2.2.2.2.2.2.2.2.2.2.2.2.2.2.1,x.1.2.2.2.2.2.2.2.2.2.2.2.2.2.2.2.1,x.1.2.2.2.2.2.2.2.2.2.2.2.2.2.2.2.2.1,x.1.2.2.2.2.2.2.2.2.2.2.2.2.2.2.2.2.2.2.2.1,x.1.2.2.2.2.2.2.2.2.2.2.2.2.2.2.2.2.2.2.2.2.1,x.1.2.2.2.2.2.2.2.2.2.2.2.2.2.2.2.2.2.2.2.2.2.1,x.1.2.2.2.1,x.1.2.2.2.2.1,x.1.2.2.2.2.2.1,x.2.2.1.1,x.2.2.1.2.1,x.2.2.1.2.2.1,x.2.2.1.2.2.2.1,x.2.2.1.2.2.2.2.1,x.2.2.2.2.2.1.2.1,x.2.2.2.2.2.1.2.2.1,x.2.2.2.2.2.1.2.2.2.1,x.2.2.2.2.2.2.2.2.2.2.2.1,x.2.2.2.2.2.2.2.2.2.2.1,x.2.1,x.2.2.2.2.2.2.2.2.2.2.2.2.2.1,x.2.2.2.2.2.2.2.2.2.1⟩
def Afd(s:S)(e0:(Int)):Ahn HP8:=((s.bits,s.big,(),s.fr,s.pl,s.procs,(),(),(),(),s.ended,s.ro,s.r1,s.r2,s.r3,s.r4,s.steps,(),(),s.inp,s.heap,s.cur,(),(),(),()),s.mem,(s.nm,s.data,s.gl,s.bg,s.il,()),((),()),((),()),((),s.ins,s.acc,s.aux,(),()),((),(),(),(),(),(),(),(),(),(),(),(),(),(),()),((),()),((),()),s.out,s.pool,s.cos,((),(),(),(),(),(),(),(),(),()),s.areas,((),()),(e0,()),())
abbrev HP9:List (Nat×Ae7):=[(0,.cells 85 [(.ptr 1)]),(1,.cells 92 [(.ptr 2),(.val (.list (.pair (.int .i64) (.pair (.int .i64) (.pair (.int .i64) (.pair (.int .i64) (.int .i64))))))),(.val (.int .i64)),(.val (.int .i64)),(.mp 11)]),(2,.cells 110 [(.val (.int .i64)),(.val .bool),(.ptr 3),(.val (.int .i64)),(.val (.int .i64)),(.val (.list (.pair (.int .i64) (.pair (.int .i64) (.int .i64))))),(.fnp 151 [4,5]),(.fnp 101 [0]),(.fnp 102 [0]),(.slf 6),(.val .bool),(.val .str),(.val (.int .i64)),(.val (.int .i64)),(.val (.int .i64)),(.val (.int .i64)),(.val (.int .i64)),(.same .nilsl),(.same .nilmap),(.val .str),(.val (.int .i64)),(.po 7),(.mp 8),(.vs 9 9),(.slf 10)]),(3,.row 233 (.int .i64)),(4,.cells 27 [(.val .str),(.val (.list (.pair .str (.pair .bool (.list (.int .i64)))))),(.val (.list (.pair (.int .i64) (.int .i64)))),(.val (.list (.pair (.int .i64) (.pair (.int .i64) (.int .i64))))),(.val (.list (.pair (.int .i64) (.pair (.int .i64) (.pair (.int .i64) (.pair (.int .i64) (.int .i64)))))))]),(5,.cells 151 [(.fn 100)]),(6,.row 5 (.int .u8)),(7,.pool 211 (.pair (.int .i64) (.pair (.int .i64) (.pair (.int .i64) (.pair .bool (.pair .bool (.pair (.int .i64) (.pair (.int .i64) (.int .i64))))))))),(8,.pmap 107 .i64 7),(9,.cells 234 [(.fn 216),(.fn 216),(.mth 217 [2]),(.mth 218 [2]),(.mth 219 [2]),(.mth 220 [2]),(.mth 221 [2]),(.mth 222 [2]),(.mth 223 [2])]),(10,.row 3 (.int .i64)),(11,.fmap 90 .i64 [(1:Int),(2:Int),(3:Int),(4:Int),(5:Int),(6:Int),(7:Int),(8:Int),(9:Int),(10:Int),(11:Int),(12:Int),(13:Int),(14:Int)] [(.fnp 153 [12]),(.fnp 154 [12]),(.fnp 155 [12]),(.fnp 156 [12]),(.fnp 157 [12]),(.fnp 158 [12]),(.fnp 159 [12]),(.fnp 160 [12]),(.fnp 161 [13]),(.fnp 162 [13,12]),(.fnp 163 [13,12]),(.fnp 164 [12]),(.fnp 165 [12]),(.fnp 166 [12,13])]),(12,.cells 85 [(.ptr 1)]),(13,.cells 190 [(.fnp 152 [12])])]
def Csv(x:Ahn HP9):S:=⟨x.2.2.1.1,x.2.2.1.2.1,x.2.2.1.2.2.2.2.2.2.2.2.2.2.1,x.2.2.1.2.2.2.2.2.2.2.2.2.2.2.1,x.2.2.1.2.2.2.2.2.2.2.2.2.2.2.2.1,x.2.2.1.2.2.2.2.2.2.2.2.2.2.2.2.2.1,x.2.2.1.2.2.2.2.2.2.2.2.2.2.2.2.2.2.1,x.2.2.1.2.2.2.2.2.2.2.2.2.2.2.2.2.2.2.1,x.2.2.1.2.2.2.2.2.2.2.2.2.2.2.2.2.2.2.2.1,x.2.2.1.2.2.2.2.2.2.2.2.2.2.2.2.2.2.2.2.2.2.2.1,x.2.2.1.2.2.2.2.2.2.2.2.2.2.2.2.2.2.2.2.2.2.2.2.1,x.2.2.1.2.2.2.2.2.2.2.2.2.2.2.2.2.2.2.2.2.2.2.2.2.1,x.2.2.1.2.2.2.1,x.2.2.1.2.2.2.2.1,x.2.2.1.2.2.2.2.2.1,x.2.2.2.2.1.1,x.2.2.2.2.1.2.1,x.2.2.2.2.1.2.2.1,x.2.2.2.2.1.2.2.2.1,x.2.2.2.2.1.2.2.2.2.1,x.2.1.2.1,x.2.1.2.2.1,x.2.1.2.2.2.1,x.2.2.2.2.2.2.2.2.1,x.2.2.2.2.2.2.2.1,x.2.2.2.1,x.2.2.2.2.2.2.2.2.2.2.1,x.2.2.2.2.2.2.1⟩
def Cjg(s:S):Ahn HP9:=(((),()),((),s.ins,s.acc,s.aux,(),()),(s.bits,s.big,(),s.fr,s.pl,s.procs,(),(),(),(),s.ended,s.ro,s.r1,s.r2,s.r3,s.r4,s.steps,(),(),s.inp,s.heap,s.cur,(),(),(),()),s.mem,(s.nm,s.data,s.gl,s.bg,s.il,()),((),()),s.out,s.pool,s.cos,((),(),(),(),(),(),(),(),(),()),s.areas,((),(),(),(),(),(),(),(),(),(),(),(),(),(),()),((),()),((),()),())
abbrev C13:List (Nat×Ae7):=[(0,.cells 110 [(.val (.int .i64)),(.val .bool),(.ptr 1),(.val (.int .i64)),(.val (.int .i64)),(.val (.list (.pair (.int .i64) (.pair (.int .i64) (.int .i64))))),(.fnp 151 [2,3]),(.fnp 101 [4]),(.fnp 102 [4]),(.slf 9),(.val .bool),(.val .str),(.val (.int .i64)),(.val (.int .i64)),(.val (.int .i64)),(.val (.int .i64)),(.val (.int .i64)),(.same .nilsl),(.same .nilmap),(.val .str),(.val (.int .i64)),(.po 10),(.mp 11),(.vs 12 9),(.slf 13)]),(1,.row 233 (.int .i64)),(2,.cells 27 [(.val .str),(.val (.list (.pair .str (.pair .bool (.list (.int .i64)))))),(.val (.list (.pair (.int .i64) (.int .i64)))),(.val (.list (.pair (.int .i64) (.pair (.int .i64) (.int .i64))))),(.val (.list (.pair (.int .i64) (.pair (.int .i64) (.pair (.int .i64) (.pair (.int .i64) (.int .i64)))))))]),(3,.cells 151 [(.fn 100)]),(4,.cells 85 [(.ptr 5)]),(5,.cells 92 [(.ptr 0),(.val (.list (.pair (.int .i64) (.pair (.int .i64) (.pair (.int .i64) (.pair (.int .i64) (.int .i64))))))),(.val (.int .i64)),(.val (.int .i64)),(.mp 6)]),(6,.fmap 90 .i64 [(1:Int),(2:Int),(3:Int),(4:Int),(5:Int),(6:Int),(7:Int),(8:Int),(9:Int),(10:Int),(11:Int),(12:Int),(13:Int),(14:Int)] [(.fnp 153 [7]),(.fnp 154 [7]),(.fnp 155 [7]),(.fnp 156 [7]),(.fnp 157 [7]),(.fnp 158 [7]),(.fnp 159 [7]),(.fnp 160 [7]),(.fnp 161 [8]),(.fnp 162 [8,7]),(.fnp 163 [8,7]),(.fnp 164 [7]),(.fnp 165 [7]),(.fnp 166 [7,8])]),(7,.cells 85 [(.ptr 5)]),(8,.cells 190 [(.fnp 152 [7])]),(9,.row 5 (.int .u8)),(10,.pool 211 (.pair (.int .i64) (.pair (.int .i64) (.pair (.int .i64) (.pair .bool (.pair .bool (.pair (.int .i64) (.pair (.int .i64) (.int .i64))))))))),(11,.pmap 107 .i64 10),(12,.cells 234 [(.fn 216),(.fn 216),(.mth 217 [0]),(.mth 218 [0]),(.mth 219 [0]),(.mth 220 [0]),(.mth 221 [0]),(.mth 222 [0]),(.mth 223 [0])]),(13,.row 3 (.int .i64)),(14,.cells 89 [(.ptr 0)]),(15,.cells 3 [(.val (.int .i64))]),(1000,.row 213 (.int .i64))]
def Cu4(x:Ahn C13):S:=⟨x.1.1,x.1.2.1,x.1.2.2.2.2.2.2.2.2.2.2.1,x.1.2.2.2.2.2.2.2.2.2.2.2.1,x.1.2.2.2.2.2.2.2.2.2.2.2.2.1,x.1.2.2.2.2.2.2.2.2.2.2.2.2.2.1,x.1.2.2.2.2.2.2.2.2.2.2.2.2.2.2.1,x.1.2.2.2.2.2.2.2.2.2.2.2.2.2.2.2.1,x.1.2.2.2.2.2.2.2.2.2.2.2.2.2.2.2.2.1,x.1.2.2.2.2.2.2.2.2.2.2.2.2.2.2.2.2.2.2.2.1,x.1.2.2.2.2.2.2.2.2.2.2.2.2.2.2.2.2.2.2.2.2.1,x.1.2.2.2.2.2.2.2.2.2.2.2.2.2.2.2.2.2.2.2.2.2.1,x.1.2.2.2.1,x.1.2.2.2.2.1,x.1.2.2.2.2.2.1,x.2.2.1.1,x.2.2.1.2.1,x.2.2.1.2.2.1,x.2.2.1.2.2.2.1,x.2.2.1.2.2.2.2.1,x.2.2.2.2.2.1.2.1,x.2.2.2.2.2.1.2.2.1,x.2.2.2.2.2.1.2.2.2.1,x.2.2.2.2.2.2.2.2.2.2.2.1,x.2.2.2.2.2.2.2.2.2.2.1,x.2.1,x.2.2.2.2.2.2.2.2.2.2.2.2.2.1,x.2.2.2.2.2.2.2.2.2.1⟩
def Cl8(s:S)(e0:(Int))(e1:(List (Int))):Ahn C13:=((s.bits,s.big,(),s.fr,s.pl,s.procs,(),(),(),(),s.ended,s.ro,s.r1,s.r2,s.r3,s.r4,s.steps,(),(),s.inp,s.heap,s.cur,(),(),(),()),s.mem,(s.nm,s.data,s.gl,s.bg,s.il,()),((),()),((),()),((),s.ins,s.acc,s.aux,(),()),((),(),(),(),(),(),(),(),(),(),(),(),(),(),()),((),()),((),()),s.out,s.pool,s.cos,((),(),(),(),(),(),(),(),(),()),s.areas,((),()),(e0,()),e1,())
abbrev C7v:List (Nat×Ae7):=[(0,.cells 92 [(.ptr 1),(.val (.list (.pair (.int .i64) (.pair (.int .i64) (.pair (.int .i64) (.pair (.int .i64) (.int .i64))))))),(.val (.int .i64)),(.val (.int .i64)),(.mp 11)]),(1,.cells 110 [(.val (.int .i64)),(.val .bool),(.ptr 2),(.val (.int .i64)),(.val (.int .i64)),(.val (.list (.pair (.int .i64) (.pair (.int .i64) (.int .i64))))),(.fnp 151 [3,4]),(.fnp 101 [5]),(.fnp 102 [5]),(.slf 6),(.val .bool),(.val .str),(.val (.int .i64)),(.val (.int .i64)),(.val (.int .i64)),(.val (.int .i64)),(.val (.int .i64)),(.same .nilsl),(.same .nilmap),(.val .str),(.val (.int .i64)),(.po 7),(.mp 8),(.vs 9 9),(.slf 10)]),(2,.row 233 (.int .i64)),(3,.cells 27 [(.val .str),(.val (.list (.pair .str (.pair .bool (.list (.int .i64)))))),(.val (.list (.pair (.int .i64) (.int .i64)))),(.val (.list (.pair (.int .i64) (.pair (.int .i64) (.int .i64))))),(.val (.list (.pair (.int .i64) (.pair (.int .i64) (.pair (.int .i64) (.pair (.int .i64) (.int .i64)))))))]),(4,.cells 151 [(.fn 100)]),(5,.cells 85 [(.ptr 0)]),(6,.row 5 (.int .u8)),(7,.pool 211 (.pair (.int .i64) (.pair (.int .i64) (.pair (.int .i64) (.pair .bool (.pair .bool (.pair (.int .i64) (.pair (.int .i64) (.int .i64))))))))),(8,.pmap 107 .i64 7),(9,.cells 234 [(.fn 216),(.fn 216),(.mth 217 [1]),(.mth 218 [1]),(.mth 219 [1]),(.mth 220 [1]),(.mth 221 [1]),(.mth 222 [1]),(.mth 223 [1])]),(10,.row 3 (.int .i64)),(11,.fmap 90 .i64 [(1:Int),(2:Int),(3:Int),(4:Int),(5:Int),(6:Int),(7:Int),(8:Int),(9:Int),(10:Int),(11:Int),(12:Int),(13:Int),(14:Int)] [(.fnp 153 [12]),(.fnp 154 [12]),(.fnp 155 [12]),(.fnp 156 [12]),(.fnp 157 [12]),(.fnp 158 [12]),(.fnp 159 [12]),(.fnp 160 [12]),(.fnp 161 [13]),(.fnp 162 [13,12]),(.fnp 163 [13,12]),(.fnp 164 [12]),(.fnp 165 [12]),(.fnp 166 [12,13])]),(12,.cells 85 [(.ptr 0)]),(13,.cells 190 [(.fnp 152 [12])]),(32,.cells 66 [(.val (.int .i64)),(.val (.int .i64)),(.val (.int .i64)),(.val (.int .i64)),(.val (.int .i64))])]
def C47(x:Ahn C7v):S:=⟨x.2.1.1,x.2.1.2.1,x.2.1.2.2.2.2.2.2.2.2.2.2.1,x.2.1.2.2.2.2.2.2.2.2.2.2.2.1,x.2.1.2.2.2.2.2.2.2.2.2.2.2.2.1,x.2.1.2.2.2.2.2.2.2.2.2.2.2.2.2.1,x.2.1.2.2.2.2.2.2.2.2.2.2.2.2.2.2.1,x.2.1.2.2.2.2.2.2.2.2.2.2.2.2.2.2.2.1,x.2.1.2.2.2.2.2.2.2.2.2.2.2.2.2.2.2.2.1,x.2.1.2.2.2.2.2.2.2.2.2.2.2.2.2.2.2.2.2.2.2.1,x.2.1.2.2.2.2.2.2.2.2.2.2.2.2.2.2.2.2.2.2.2.2.1,x.2.1.2.2.2.2.2.2.2.2.2.2.2.2.2.2.2.2.2.2.2.2.2.1,x.2.1.2.2.2.1,x.2.1.2.2.2.2.1,x.2.1.2.2.2.2.2.1,x.2.2.2.1.1,x.2.2.2.1.2.1,x.2.2.2.1.2.2.1,x.2.2.2.1.2.2.2.1,x.2.2.2.1.2.2.2.2.1,x.1.2.1,x.1.2.2.1,x.1.2.2.2.1,x.2.2.2.2.2.2.2.2.1,x.2.2.2.2.2.2.2.1,x.2.2.1,x.2.2.2.2.2.2.2.2.2.2.1,x.2.2.2.2.2.2.1⟩
def Dfq(s:S)(e0:(Int))(e1:(Int))(e2:(Int))(e3:(Int))(e4:(Int)):Ahn C7v:=(((),s.ins,s.acc,s.aux,(),()),(s.bits,s.big,(),s.fr,s.pl,s.procs,(),(),(),(),s.ended,s.ro,s.r1,s.r2,s.r3,s.r4,s.steps,(),(),s.inp,s.heap,s.cur,(),(),(),()),s.mem,(s.nm,s.data,s.gl,s.bg,s.il,()),((),()),((),()),s.out,s.pool,s.cos,((),(),(),(),(),(),(),(),(),()),s.areas,((),(),(),(),(),(),(),(),(),(),(),(),(),(),()),((),()),((),()),(e0,e1,e2,e3,e4,()),())
abbrev Cu5:List (Nat×Ae7):=[(0,.cells 92 [(.ptr 1),(.val (.list (.pair (.int .i64) (.pair (.int .i64) (.pair (.int .i64) (.pair (.int .i64) (.int .i64))))))),(.val (.int .i64)),(.val (.int .i64)),(.mp 11)]),(1,.cells 110 [(.val (.int .i64)),(.val .bool),(.ptr 2),(.val (.int .i64)),(.val (.int .i64)),(.val (.list (.pair (.int .i64) (.pair (.int .i64) (.int .i64))))),(.fnp 151 [3,4]),(.fnp 101 [5]),(.fnp 102 [5]),(.slf 6),(.val .bool),(.val .str),(.val (.int .i64)),(.val (.int .i64)),(.val (.int .i64)),(.val (.int .i64)),(.val (.int .i64)),(.same .nilsl),(.same .nilmap),(.val .str),(.val (.int .i64)),(.po 7),(.mp 8),(.vs 9 9),(.slf 10)]),(2,.row 233 (.int .i64)),(3,.cells 27 [(.val .str),(.val (.list (.pair .str (.pair .bool (.list (.int .i64)))))),(.val (.list (.pair (.int .i64) (.int .i64)))),(.val (.list (.pair (.int .i64) (.pair (.int .i64) (.int .i64))))),(.val (.list (.pair (.int .i64) (.pair (.int .i64) (.pair (.int .i64) (.pair (.int .i64) (.int .i64)))))))]),(4,.cells 151 [(.fn 100)]),(5,.cells 85 [(.ptr 0)]),(6,.row 5 (.int .u8)),(7,.pool 211 (.pair (.int .i64) (.pair (.int .i64) (.pair (.int .i64) (.pair .bool (.pair .bool (.pair (.int .i64) (.pair (.int .i64) (.int .i64))))))))),(8,.pmap 107 .i64 7),(9,.cells 234 [(.fn 216),(.fn 216),(.mth 217 [1]),(.mth 218 [1]),(.mth 219 [1]),(.mth 220 [1]),(.mth 221 [1]),(.mth 222 [1]),(.mth 223 [1])]),(10,.row 3 (.int .i64)),(11,.fmap 90 .i64 [(1:Int),(2:Int),(3:Int),(4:Int),(5:Int),(6:Int),(7:Int),(8:Int),(9:Int),(10:Int),(11:Int),(12:Int),(13:Int),(14:Int)] [(.fnp 153 [12]),(.fnp 154 [12]),(.fnp 155 [12]),(.fnp 156 [12]),(.fnp 157 [12]),(.fnp 158 [12]),(.fnp 159 [12]),(.fnp 160 [12]),(.fnp 161 [13]),(.fnp 162 [13,12]),(.fnp 163 [13,12]),(.fnp 164 [12]),(.fnp 165 [12]),(.fnp 166 [12,13])]),(12,.cells 85 [(.ptr 0)]),(13,.cells 190 [(.fnp 152 [12])])]
def Cu6(x:Ahn Cu5):S:=⟨x.2.1.1,x.2.1.2.1,x.2.1.2.2.2.2.2.2.2.2.2.2.1,x.2.1.2.2.2.2.2.2.2.2.2.2.2.1,x.2.1.2.2.2.2.2.2.2.2.2.2.2.2.1,x.2.1.2.2.2.2.2.2.2.2.2.2.2.2.2.1,x.2.1.2.2.2.2.2.2.2.2.2.2.2.2.2.2.1,x.2.1.2.2.2.2.2.2.2.2.2.2.2.2.2.2.2.1,x.2.1.2.2.2.2.2.2.2.2.2.2.2.2.2.2.2.2.1,x.2.1.2.2.2.2.2.2.2.2.2.2.2.2.2.2.2.2.2.2.2.1,x.2.1.2.2.2.2.2.2.2.2.2.2.2.2.2.2.2.2.2.2.2.2.1,x.2.1.2.2.2.2.2.2.2.2.2.2.2.2.2.2.2.2.2.2.2.2.2.1,x.2.1.2.2.2.1,x.2.1.2.2.2.2.1,x.2.1.2.2.2.2.2.1,x.2.2.2.1.1,x.2.2.2.1.2.1,x.2.2.2.1.2.2.1,x.2.2.2.1.2.2.2.1,x.2.2.2.1.2.2.2.2.1,x.1.2.1,x.1.2.2.1,x.1.2.2.2.1,x.2.2.2.2.2.2.2.2.1,x.2.2.2.2.2.2.2.1,x.2.2.1,x.2.2.2.2.2.2.2.2.2.2.1,x.2.2.2.2.2.2.1⟩
def Bxy(s:S):Ahn Cu5:=(((),s.ins,s.acc,s.aux,(),()),(s.bits,s.big,(),s.fr,s.pl,s.procs,(),(),(),(),s.ended,s.ro,s.r1,s.r2,s.r3,s.r4,s.steps,(),(),s.inp,s.heap,s.cur,(),(),(),()),s.mem,(s.nm,s.data,s.gl,s.bg,s.il,()),((),()),((),()),s.out,s.pool,s.cos,((),(),(),(),(),(),(),(),(),()),s.areas,((),(),(),(),(),(),(),(),(),(),(),(),(),(),()),((),()),((),()),())
abbrev C7w:List (Nat×Ae7):=[(0,.cells 110 [(.val (.int .i64)),(.val .bool),(.ptr 1),(.val (.int .i64)),(.val (.int .i64)),(.val (.list (.pair (.int .i64) (.pair (.int .i64) (.int .i64))))),(.fnp 151 [2,3]),(.fnp 101 [4]),(.fnp 102 [4]),(.slf 9),(.val .bool),(.val .str),(.val (.int .i64)),(.val (.int .i64)),(.val (.int .i64)),(.val (.int .i64)),(.val (.int .i64)),(.same .nilsl),(.same .nilmap),(.val .str),(.val (.int .i64)),(.po 10),(.mp 11),(.vs 12 9),(.slf 13)]),(1,.row 233 (.int .i64)),(2,.cells 27 [(.val .str),(.val (.list (.pair .str (.pair .bool (.list (.int .i64)))))),(.val (.list (.pair (.int .i64) (.int .i64)))),(.val (.list (.pair (.int .i64) (.pair (.int .i64) (.int .i64))))),(.val (.list (.pair (.int .i64) (.pair (.int .i64) (.pair (.int .i64) (.pair (.int .i64) (.int .i64)))))))]),(3,.cells 151 [(.fn 100)]),(4,.cells 85 [(.ptr 5)]),(5,.cells 92 [(.ptr 0),(.val (.list (.pair (.int .i64) (.pair (.int .i64) (.pair (.int .i64) (.pair (.int .i64) (.int .i64))))))),(.val (.int .i64)),(.val (.int .i64)),(.mp 6)]),(6,.fmap 90 .i64 [(1:Int),(2:Int),(3:Int),(4:Int),(5:Int),(6:Int),(7:Int),(8:Int),(9:Int),(10:Int),(11:Int),(12:Int),(13:Int),(14:Int)] [(.fnp 153 [7]),(.fnp 154 [7]),(.fnp 155 [7]),(.fnp 156 [7]),(.fnp 157 [7]),(.fnp 158 [7]),(.fnp 159 [7]),(.fnp 160 [7]),(.fnp 161 [8]),(.fnp 162 [8,7]),(.fnp 163 [8,7]),(.fnp 164 [7]),(.fnp 165 [7]),(.fnp 166 [7,8])]),(7,.cells 85 [(.ptr 5)]),(8,.cells 190 [(.fnp 152 [7])]),(9,.row 5 (.int .u8)),(10,.pool 211 (.pair (.int .i64) (.pair (.int .i64) (.pair (.int .i64) (.pair .bool (.pair .bool (.pair (.int .i64) (.pair (.int .i64) (.int .i64))))))))),(11,.pmap 107 .i64 10),(12,.cells 234 [(.fn 216),(.fn 216),(.mth 217 [0]),(.mth 218 [0]),(.mth 219 [0]),(.mth 220 [0]),(.mth 221 [0]),(.mth 222 [0]),(.mth 223 [0])]),(13,.row 3 (.int .i64)),(32,.cells 42 [(.val .str),(.val (.int .i64)),(.val (.int .i64)),(.val (.int .i64)),(.val (.int .i64))]),(33,.cells 42 [(.val .str),(.val (.int .i64)),(.val (.int .i64)),(.val (.int .i64)),(.val (.int .i64))])]
def C48(x:Ahn C7w):S:=⟨x.1.1,x.1.2.1,x.1.2.2.2.2.2.2.2.2.2.2.1,x.1.2.2.2.2.2.2.2.2.2.2.2.1,x.1.2.2.2.2.2.2.2.2.2.2.2.2.1,x.1.2.2.2.2.2.2.2.2.2.2.2.2.2.1,x.1.2.2.2.2.2.2.2.2.2.2.2.2.2.2.1,x.1.2.2.2.2.2.2.2.2.2.2.2.2.2.2.2.1,x.1.2.2.2.2.2.2.2.2.2.2.2.2.2.2.2.2.1,x.1.2.2.2.2.2.2.2.2.2.2.2.2.2.2.2.2.2.2.2.1,x.1.2.2.2.2.2.2.2.2.2.2.2.2.2.2.2.2.2.2.2.2.1,x.1.2.2.2.2.2.2.2.2.2.2.2.2.2.2.2.2.2.2.2.2.2.1,x.1.2.2.2.1,x.1.2.2.2.2.1,x.1.2.2.2.2.2.1,x.2.2.1.1,x.2.2.1.2.1,x.2.2.1.2.2.1,x.2.2.1.2.2.2.1,x.2.2.1.2.2.2.2.1,x.2.2.2.2.2.1.2.1,x.2.2.2.2.2.1.2.2.1,x.2.2.2.2.2.1.2.2.2.1,x.2.2.2.2.2.2.2.2.2.2.2.1,x.2.2.2.2.2.2.2.2.2.2.1,x.2.1,x.2.2.2.2.2.2.2.2.2.2.2.2.2.1,x.2.2.2.2.2.2.2.2.2.1⟩
def Dfr(s:S)(e0:(List UInt8))(e1:(Int))(e2:(Int))(e3:(Int))(e4:(Int))(e5:(List UInt8))(e6:(Int))(e7:(Int))(e8:(Int))(e9:(Int)):Ahn C7w:=((s.bits,s.big,(),s.fr,s.pl,s.procs,(),(),(),(),s.ended,s.ro,s.r1,s.r2,s.r3,s.r4,s.steps,(),(),s.inp,s.heap,s.cur,(),(),(),()),s.mem,(s.nm,s.data,s.gl,s.bg,s.il,()),((),()),((),()),((),s.ins,s.acc,s.aux,(),()),((),(),(),(),(),(),(),(),(),(),(),(),(),(),()),((),()),((),()),s.out,s.pool,s.cos,((),(),(),(),(),(),(),(),(),()),s.areas,(e0,e1,e2,e3,e4,()),(e5,e6,e7,e8,e9,()),())
abbrev C7x:List (Nat×Ae7):=[(0,.cells 110 [(.val (.int .i64)),(.val .bool),(.ptr 1),(.val (.int .i64)),(.val (.int .i64)),(.val (.list (.pair (.int .i64) (.pair (.int .i64) (.int .i64))))),(.fnp 151 [2,3]),(.fnp 101 [4]),(.fnp 102 [4]),(.slf 9),(.val .bool),(.val .str),(.val (.int .i64)),(.val (.int .i64)),(.val (.int .i64)),(.val (.int .i64)),(.val (.int .i64)),(.same .nilsl),(.same .nilmap),(.val .str),(.val (.int .i64)),(.po 10),(.mp 11),(.vs 12 9),(.slf 13)]),(1,.row 233 (.int .i64)),(2,.cells 27 [(.val .str),(.val (.list (.pair .str (.pair .bool (.list (.int .i64)))))),(.val (.list (.pair (.int .i64) (.int .i64)))),(.val (.list (.pair (.int .i64) (.pair (.int .i64) (.int .i64))))),(.val (.list (.pair (.int .i64) (.pair (.int .i64) (.pair (.int .i64) (.pair (.int .i64) (.int .i64)))))))]),(3,.cells 151 [(.fn 100)]),(4,.cells 85 [(.ptr 5)]),(5,.cells 92 [(.ptr 0),(.val (.list (.pair (.int .i64) (.pair (.int .i64) (.pair (.int .i64) (.pair (.int .i64) (.int .i64))))))),(.val (.int .i64)),(.val (.int .i64)),(.mp 6)]),(6,.fmap 90 .i64 [(1:Int),(2:Int),(3:Int),(4:Int),(5:Int),(6:Int),(7:Int),(8:Int),(9:Int),(10:Int),(11:Int),(12:Int),(13:Int),(14:Int)] [(.fnp 153 [7]),(.fnp 154 [7]),(.fnp 155 [7]),(.fnp 156 [7]),(.fnp 157 [7]),(.fnp 158 [7]),(.fnp 159 [7]),(.fnp 160 [7]),(.fnp 161 [8]),(.fnp 162 [8,7]),(.fnp 163 [8,7]),(.fnp 164 [7]),(.fnp 165 [7]),(.fnp 166 [7,8])]),(7,.cells 85 [(.ptr 5)]),(8,.cells 190 [(.fnp 152 [7])]),(9,.row 5 (.int .u8)),(10,.pool 211 (.pair (.int .i64) (.pair (.int .i64) (.pair (.int .i64) (.pair .bool (.pair .bool (.pair (.int .i64) (.pair (.int .i64) (.int .i64))))))))),(11,.pmap 107 .i64 10),(12,.cells 234 [(.fn 216),(.fn 216),(.mth 217 [0]),(.mth 218 [0]),(.mth 219 [0]),(.mth 220 [0]),(.mth 221 [0]),(.mth 222 [0]),(.mth 223 [0])]),(13,.row 3 (.int .i64)),(32,.cells 42 [(.val .str),(.val (.int .i64)),(.val (.int .i64)),(.val (.int .i64)),(.val (.int .i64))])]
def Dft(x:Ahn C7x):S:=⟨x.1.1,x.1.2.1,x.1.2.2.2.2.2.2.2.2.2.2.1,x.1.2.2.2.2.2.2.2.2.2.2.2.1,x.1.2.2.2.2.2.2.2.2.2.2.2.2.1,x.1.2.2.2.2.2.2.2.2.2.2.2.2.2.1,x.1.2.2.2.2.2.2.2.2.2.2.2.2.2.2.1,x.1.2.2.2.2.2.2.2.2.2.2.2.2.2.2.2.1,x.1.2.2.2.2.2.2.2.2.2.2.2.2.2.2.2.2.1,x.1.2.2.2.2.2.2.2.2.2.2.2.2.2.2.2.2.2.2.2.1,x.1.2.2.2.2.2.2.2.2.2.2.2.2.2.2.2.2.2.2.2.2.1,x.1.2.2.2.2.2.2.2.2.2.2.2.2.2.2.2.2.2.2.2.2.2.1,x.1.2.2.2.1,x.1.2.2.2.2.1,x.1.2.2.2.2.2.1,x.2.2.1.1,x.2.2.1.2.1,x.2.2.1.2.2.1,x.2.2.1.2.2.2.1,x.2.2.1.2.2.2.2.1,x.2.2.2.2.2.1.2.1,x.2.2.2.2.2.1.2.2.1,x.2.2.2.2.2.1.2.2.2.1,x.2.2.2.2.2.2.2.2.2.2.2.1,x.2.2.2.2.2.2.2.2.2.2.1,x.2.1,x.2.2.2.2.2.2.2.2.2.2.2.2.2.1,x.2.2.2.2.2.2.2.2.2.1⟩
def C0f(s:S)(e0:(List UInt8))(e1:(Int))(e2:(Int))(e3:(Int))(e4:(Int)):Ahn C7x:=((s.bits,s.big,(),s.fr,s.pl,s.procs,(),(),(),(),s.ended,s.ro,s.r1,s.r2,s.r3,s.r4,s.steps,(),(),s.inp,s.heap,s.cur,(),(),(),()),s.mem,(s.nm,s.data,s.gl,s.bg,s.il,()),((),()),((),()),((),s.ins,s.acc,s.aux,(),()),((),(),(),(),(),(),(),(),(),(),(),(),(),(),()),((),()),((),()),s.out,s.pool,s.cos,((),(),(),(),(),(),(),(),(),()),s.areas,(e0,e1,e2,e3,e4,()),())
def types:List Nat:=[42,9,3,30,4,0,89,110,37,101,24,77,102,103,1,104,5,34,105,106,211,107,108,234,93,196,195,193,52,85,92,25,66,90,156,190,189,213,124,262,201,27,22,59,23,136,151,250,198,2,139,137,141,186,74,67,72,70,69,217,218,221,64,214,147,241,243,264,268,245,61,149,86,43,39]
def tt0:TT:=[(42,(.mk (.struct [(0,(1,9)),(1,(1,3)),(2,(1,3)),(3,(1,30)),(4,(1,3))]) 5 48 (.some [(.a (.val .str (([]:List UInt8):List UInt8))),(.a (.val (.int .i64) ((0:Int):Int))),(.a (.val (.int .i64) ((0:Int):Int))),(.a (.val (.int .i64) ((0:Int):Int))),(.a (.val (.int .i64) ((0:Int):Int)))]) true .none)),(9,(.mk .str 1 16 (.some [(.a (.val .str (([]:List UInt8):List UInt8)))]) false .none)),(3,(.mk (.int .i64) 1 8 (.some [(.a (.val (.int .i64) ((0:Int):Int)))]) false .none)),(30,(.mk (.int .i64) 1 8 (.some [(.a (.val (.int .i64) ((0:Int):Int)))]) false .none)),(4,(.mk .bool 1 1 (.some [(.a (.val .bool (false:Bool)))]) false .none)),(0,(.mk .other 1 0 (.some [(.a .undef)]) false .none)),(89,(.mk (.ptr 110) 1 8 (.some [(.a .nilptr)]) false .none)),(110,(.mk (.struct [(0,(2,37)),(2,(1,101)),(3,(1,3)),(4,(1,3)),(5,(1,24)),(6,(1,102)),(7,(1,103)),(8,(1,1)),(9,(1,104)),(10,(1,4)),(11,(5,42)),(16,(1,3)),(17,(1,34)),(18,(1,105)),(19,(1,9)),(20,(1,3)),(21,(1,106)),(22,(1,107)),(23,(1,108)),(24,(1,34))]) 25 296 (.some [(.a (.val (.int .i64) ((0:Int):Int))),(.a (.val .bool (false:Bool))),(.a .nilptr),(.a (.val (.int .i64) ((0:Int):Int))),(.a (.val (.int .i64) ((0:Int):Int))),(.a .nilsl),(.a .nilfn),(.a .nilfn),(.a .nilfn),(.a .nilsl),(.a (.val .bool (false:Bool))),(.a (.val .str (([]:List UInt8):List UInt8))),(.a (.val (.int .i64) ((0:Int):Int))),(.a (.val (.int .i64) ((0:Int):Int))),(.a (.val (.int .i64) ((0:Int):Int))),(.a (.val (.int .i64) ((0:Int):Int))),(.a (.val (.int .i64) ((0:Int):Int))),(.a .nilsl),(.a .nilmap),(.a (.val .str (([]:List UInt8):List UInt8))),(.a (.val (.int .i64) ((0:Int):Int))),(.a .nilptr),(.a .nilmap),(.a .nilsl),(.a .nilsl)]) true .none)),(37,(.mk (.struct [(0,(1,3)),(1,(1,4))]) 2 16 (.some [(.a (.val (.int .i64) ((0:Int):Int))),(.a (.val .bool (false:Bool)))]) true .none)),(101,(.mk (.ptr 233) 1 8 (.some [(.a .nilptr)]) false .none)),(24,(.mk (.slice 77) 1 24 (.some [(.a .nilsl)]) false .none)),(77,(.mk (.struct [(0,(1,3)),(1,(1,3)),(2,(1,3))]) 3 24 (.some [(.a (.val (.int .i64) ((0:Int):Int))),(.a (.val (.int .i64) ((0:Int):Int))),(.a (.val (.int .i64) ((0:Int):Int)))]) true .none)),(102,(.mk .func 1 8 (.some [(.a .nilfn)]) false .none)),(103,(.mk .func 1 8 (.some [(.a .nilfn)]) false .none)),(1,(.mk .func 1 8 (.some [(.a .nilfn)]) false .none)),(104,(.mk (.slice 5) 1 24 (.some [(.a .nilsl)]) false .none)),(5,(.mk (.int .u8) 1 1 (.some [(.a (.val (.int .u8) ((0:Int):Int)))]) false .none)),(34,(.mk (.slice 3) 1 24 (.some [(.a .nilsl)]) false .none)),(105,(.mk (.map 3 3) 1 8 (.some [(.a .nilmap)]) false .none)),(106,(.mk (.ptr 211) 1 8 (.some [(.a .nilptr)]) false .none)),(211,(.mk (.struct [(0,(1,3)),(1,(1,3)),(2,(1,3)),(3,(1,4)),(4,(1,4)),(5,(1,3)),(6,(1,3)),(7,(1,3)),(8,(1,106))]) 9 64 (.some [(.a (.val (.int .i64) ((0:Int):Int))),(.a (.val (.int .i64) ((0:Int):Int))),(.a (.val (.int .i64) ((0:Int):Int))),(.a (.val .bool (false:Bool))),(.a (.val .bool (false:Bool))),(.a (.val (.int .i64) ((0:Int):Int))),(.a (.val (.int .i64) ((0:Int):Int))),(.a (.val (.int .i64) ((0:Int):Int))),(.a .nilptr)]) true .none)),(107,(.mk (.map 3 106) 1 8 (.some [(.a .nilmap)]) false .none)),(108,(.mk (.slice 234) 1 24 (.some [(.a .nilsl)]) false .none)),(234,(.mk .func 1 8 (.some [(.a .nilfn)]) false .none)),(93,(.mk .func 1 8 (.some [(.a .nilfn)]) false .none)),(196,(.mk (.slice 195) 1 24 (.some [(.a .nilsl)]) false .none)),(195,(.mk (.struct [(0,(1,193))]) 1 8 (.some [(.a .nilfn)]) true .none)),(193,(.mk .func 1 8 (.some [(.a .nilfn)]) false .none)),(52,(.mk .other 1 0 (.some [(.a .undef)]) false .none)),(85,(.mk (.ptr 92) 1 8 (.some [(.a .nilptr)]) false .none)),(92,(.mk (.struct [(0,(1,89)),(1,(1,25)),(2,(1,3)),(3,(1,3)),(4,(1,90))]) 5 56 (.some [(.a .nilptr),(.a .nilsl),(.a (.val (.int .i64) ((0:Int):Int))),(.a (.val (.int .i64) ((0:Int):Int))),(.a .nilmap)]) true .none)),(25,(.mk (.slice 66) 1 24 (.some [(.a .nilsl)]) false .none)),(66,(.mk (.struct [(0,(1,3)),(1,(1,3)),(2,(1,3)),(3,(1,3)),(4,(1,3))]) 5 40 (.some [(.a (.val (.int .i64) ((0:Int):Int))),(.a (.val (.int .i64) ((0:Int):Int))),(.a (.val (.int .i64) ((0:Int):Int))),(.a (.val (.int .i64) ((0:Int):Int))),(.a (.val (.int .i64) ((0:Int):Int)))]) true .none)),(90,(.mk (.map 3 156) 1 8 (.some [(.a .nilmap)]) false .none)),(156,(.mk .func 1 8 (.some [(.a .nilfn)]) false .none)),(190,(.mk .func 1 8 (.some [(.a .nilfn)]) false .none)),(189,(.mk .other 1 0 (.some [(.a .undef)]) false .none)),(213,(.mk (.arr 3 3) 3 24 (.some [(.a (.val (.int .i64) ((0:Int):Int))),(.a (.val (.int .i64) ((0:Int):Int))),(.a (.val (.int .i64) ((0:Int):Int)))]) false .none)),(124,(.mk .func 1 8 (.some [(.a .nilfn)]) false .none)),(262,(.mk .other 1 0 (.some [(.a .undef)]) false .none)),(201,(.mk .other 1 0 (.some [(.a .undef)]) false .none)),(27,(.mk (.struct [(0,(1,9)),(1,(1,22)),(2,(1,23)),(3,(1,24)),(4,(1,25))]) 5 112 (.some [(.a (.val .str (([]:List UInt8):List UInt8))),(.a .nilsl),(.a .nilsl),(.a .nilsl),(.a .nilsl)]) true .none)),(22,(.mk (.slice 59) 1 24 (.some [(.a .nilsl)]) false .none)),(59,(.mk (.struct [(0,(1,9)),(1,(1,4)),(2,(1,34))]) 3 48 (.some [(.a (.val .str (([]:List UInt8):List UInt8))),(.a (.val .bool (false:Bool))),(.a .nilsl)]) true .none)),(23,(.mk (.slice 136) 1 24 (.some [(.a .nilsl)]) false .none)),(136,(.mk (.struct [(0,(1,3)),(1,(1,3))]) 2 16 (.some [(.a (.val (.int .i64) ((0:Int):Int))),(.a (.val (.int .i64) ((0:Int):Int)))]) true .none)),(151,(.mk .func 1 8 (.some [(.a .nilfn)]) false .none)),(250,(.mk .other 1 0 (.some [(.a .undef)]) false .none)),(198,(.mk .other 1 0 (.some [(.a .undef)]) false .none)),(2,(.mk (.int .i64) 1 8 (.some [(.a (.val (.int .i64) ((0:Int):Int)))]) false .none)),(139,(.mk (.struct [(0,(1,9)),(1,(1,22)),(2,(1,137)),(3,(1,23)),(4,(1,3)),(5,(1,3))]) 6 104 (.some [(.a (.val .str (([]:List UInt8):List UInt8))),(.a .nilsl),(.a .nilsl),(.a .nilsl),(.a (.val (.int .i64) ((0:Int):Int))),(.a (.val (.int .i64) ((0:Int):Int)))]) true .none)),(137,(.mk (.slice 141) 1 24 (.some [(.a .nilsl)]) false .none)),(141,(.mk (.struct [(0,(1,3)),(1,(1,3)),(2,(1,3))]) 3 24 (.some [(.a (.val (.int .i64) ((0:Int):Int))),(.a (.val (.int .i64) ((0:Int):Int))),(.a (.val (.int .i64) ((0:Int):Int)))]) true .none)),(186,(.mk .other 1 0 (.some [(.a .undef)]) false .none)),(74,(.mk .func 1 8 (.some [(.a .nilfn)]) false .none)),(67,(.mk (.ptr 72) 1 8 (.some [(.a .nilptr)]) false .none)),(72,(.mk (.struct [(0,(5,27)),(5,(1,70))]) 6 120 (.some [(.a (.val .str (([]:List UInt8):List UInt8))),(.a .nilsl),(.a .nilsl),(.a .nilsl),(.a .nilsl),(.a .nilmap)]) true .none)),(70,(.mk (.map 3 69) 1 8 (.some [(.a .nilmap)]) false .none)),(69,(.mk .func 1 8 (.some [(.a .nilfn)]) false .none)),(217,(.mk (.struct [(0,(1,9)),(1,(1,3)),(2,(1,3)),(3,(1,3))]) 4 40 (.some [(.a (.val .str (([]:List UInt8):List UInt8))),(.a (.val (.int .i64) ((0:Int):Int))),(.a (.val (.int .i64) ((0:Int):Int))),(.a (.val (.int .i64) ((0:Int):Int)))]) true .none)),(218,(.mk (.arr 31 217) 124 1240 (.some [(.a (.val .str (([]:List UInt8):List UInt8))),(.a (.val (.int .i64) ((0:Int):Int))),(.a (.val (.int .i64) ((0:Int):Int))),(.a (.val (.int .i64) ((0:Int):Int))),(.a (.val .str (([]:List UInt8):List UInt8))),(.a (.val (.int .i64) ((0:Int):Int))),(.a (.val (.int .i64) ((0:Int):Int))),(.a (.val (.int .i64) ((0:Int):Int))),(.a (.val .str (([]:List UInt8):List UInt8))),(.a (.val (.int .i64) ((0:Int):Int))),(.a (.val (.int .i64) ((0:Int):Int))),(.a (.val (.int .i64) ((0:Int):Int))),(.a (.val .str (([]:List UInt8):List UInt8))),(.a (.val (.int .i64) ((0:Int):Int))),(.a (.val (.int .i64) ((0:Int):Int))),(.a (.val (.int .i64) ((0:Int):Int))),(.a (.val .str (([]:List UInt8):List UInt8))),(.a (.val (.int .i64) ((0:Int):Int))),(.a (.val (.int .i64) ((0:Int):Int))),(.a (.val (.int .i64) ((0:Int):Int))),(.a (.val .str (([]:List UInt8):List UInt8))),(.a (.val (.int .i64) ((0:Int):Int))),(.a (.val (.int .i64) ((0:Int):Int))),(.a (.val (.int .i64) ((0:Int):Int))),(.a (.val .str (([]:List UInt8):List UInt8))),(.a (.val (.int .i64) ((0:Int):Int))),(.a (.val (.int .i64) ((0:Int):Int))),(.a (.val (.int .i64) ((0:Int):Int))),(.a (.val .str (([]:List UInt8):List UInt8))),(.a (.val (.int .i64) ((0:Int):Int))),(.a (.val (.int .i64) ((0:Int):Int))),(.a (.val (.int .i64) ((0:Int):Int))),(.a (.val .str (([]:List UInt8):List UInt8))),(.a (.val (.int .i64) ((0:Int):Int))),(.a (.val (.int .i64) ((0:Int):Int))),(.a (.val (.int .i64) ((0:Int):Int))),(.a (.val .str (([]:List UInt8):List UInt8))),(.a (.val (.int .i64) ((0:Int):Int))),(.a (.val (.int .i64) ((0:Int):Int))),(.a (.val (.int .i64) ((0:Int):Int))),(.a (.val .str (([]:List UInt8):List UInt8))),(.a (.val (.int .i64) ((0:Int):Int))),(.a (.val (.int .i64) ((0:Int):Int))),(.a (.val (.int .i64) ((0:Int):Int))),(.a (.val .str (([]:List UInt8):List UInt8))),(.a (.val (.int .i64) ((0:Int):Int))),(.a (.val (.int .i64) ((0:Int):Int))),(.a (.val (.int .i64) ((0:Int):Int))),(.a (.val .str (([]:List UInt8):List UInt8))),(.a (.val (.int .i64) ((0:Int):Int))),(.a (.val (.int .i64) ((0:Int):Int))),(.a (.val (.int .i64) ((0:Int):Int))),(.a (.val .str (([]:List UInt8):List UInt8))),(.a (.val (.int .i64) ((0:Int):Int))),(.a (.val (.int .i64) ((0:Int):Int))),(.a (.val (.int .i64) ((0:Int):Int))),(.a (.val .str (([]:List UInt8):List UInt8))),(.a (.val (.int .i64) ((0:Int):Int))),(.a (.val (.int .i64) ((0:Int):Int))),(.a (.val (.int .i64) ((0:Int):Int))),(.a (.val .str (([]:List UInt8):List UInt8))),(.a (.val (.int .i64) ((0:Int):Int))),(.a (.val (.int .i64) ((0:Int):Int))),(.a (.val (.int .i64) ((0:Int):Int))),(.a (.val .str (([]:List UInt8):List UInt8))),(.a (.val (.int .i64) ((0:Int):Int))),(.a (.val (.int .i64) ((0:Int):Int))),(.a (.val (.int .i64) ((0:Int):Int))),(.a (.val .str (([]:List UInt8):List UInt8))),(.a (.val (.int .i64) ((0:Int):Int))),(.a (.val (.int .i64) ((0:Int):Int))),(.a (.val (.int .i64) ((0:Int):Int))),(.a (.val .str (([]:List UInt8):List UInt8))),(.a (.val (.int .i64) ((0:Int):Int))),(.a (.val (.int .i64) ((0:Int):Int))),(.a (.val (.int .i64) ((0:Int):Int))),(.a (.val .str (([]:List UInt8):List UInt8))),(.a (.val (.int .i64) ((0:Int):Int))),(.a (.val (.int .i64) ((0:Int):Int))),(.a (.val (.int .i64) ((0:Int):Int))),(.a (.val .str (([]:List UInt8):List UInt8))),(.a (.val (.int .i64) ((0:Int):Int))),(.a (.val (.int .i64) ((0:Int):Int))),(.a (.val (.int .i64) ((0:Int):Int))),(.a (.val .str (([]:List UInt8):List UInt8))),(.a (.val (.int .i64) ((0:Int):Int))),(.a (.val (.int .i64) ((0:Int):Int))),(.a (.val (.int .i64) ((0:Int):Int))),(.a (.val .str (([]:List UInt8):List UInt8))),(.a (.val (.int .i64) ((0:Int):Int))),(.a (.val (.int .i64) ((0:Int):Int))),(.a (.val (.int .i64) ((0:Int):Int))),(.a (.val .str (([]:List UInt8):List UInt8))),(.a (.val (.int .i64) ((0:Int):Int))),(.a (.val (.int .i64) ((0:Int):Int))),(.a (.val (.int .i64) ((0:Int):Int))),(.a (.val .str (([]:List UInt8):List UInt8))),(.a (.val (.int .i64) ((0:Int):Int))),(.a (.val (.int .i64) ((0:Int):Int))),(.a (.val (.int .i64) ((0:Int):Int))),(.a (.val .str (([]:List UInt8):List UInt8))),(.a (.val (.int .i64) ((0:Int):Int))),(.a (.val (.int .i64) ((0:Int):Int))),(.a (.val (.int .i64) ((0:Int):Int))),(.a (.val .str (([]:List UInt8):List UInt8))),(.a (.val (.int .i64) ((0:Int):Int))),(.a (.val (.int .i64) ((0:Int):Int))),(.a (.val (.int .i64) ((0:Int):Int))),(.a (.val .str (([]:List UInt8):List UInt8))),(.a (.val (.int .i64) ((0:Int):Int))),(.a (.val (.int .i64) ((0:Int):Int))),(.a (.val (.int .i64) ((0:Int):Int))),(.a (.val .str (([]:List UInt8):List UInt8))),(.a (.val (.int .i64) ((0:Int):Int))),(.a (.val (.int .i64) ((0:Int):Int))),(.a (.val (.int .i64) ((0:Int):Int))),(.a (.val .str (([]:List UInt8):List UInt8))),(.a (.val (.int .i64) ((0:Int):Int))),(.a (.val (.int .i64) ((0:Int):Int))),(.a (.val (.int .i64) ((0:Int):Int))),(.a (.val .str (([]:List UInt8):List UInt8))),(.a (.val (.int .i64) ((0:Int):Int))),(.a (.val (.int .i64) ((0:Int):Int))),(.a (.val (.int .i64) ((0:Int):Int)))]) false .none)),(221,(.mk .other 1 0 (.some [(.a .undef)]) false .none)),(64,(.mk .func 1 8 (.some [(.a .nilfn)]) false .none)),(214,(.mk .other 1 0 (.some [(.a .undef)]) false .none)),(147,(.mk (.map 3 4) 1 8 (.some [(.a .nilmap)]) false .none)),(241,(.mk (.ptr 243) 1 8 (.some [(.a .nilptr)]) false .none)),(243,(.mk (.struct [(0,(1,241)),(1,(1,104))]) 2 32 (.some [(.a .nilptr),(.a .nilsl)]) true .none)),(264,(.mk (.ptr 5) 1 8 (.some [(.a .nilptr)]) false .none)),(268,(.mk .other 1 8 (.some [(.a .nilptr)]) false .none)),(245,(.mk .iface 1 16 (.some [(.a .nilif)]) false .none)),(61,(.mk .other 1 0 (.some [(.a .undef)]) false .none)),(149,(.mk .other 1 0 (.some [(.a .undef)]) false .none)),(86,(.mk .other 1 0 (.some [(.a .undef)]) false .none)),(43,(.mk .other 1 0 (.some [(.a .undef)]) false .none)),(39,(.mk (.struct [(0,(5,27)),(5,(2,37)),(7,(1,9)),(8,(1,3))]) 9 152 (.some [(.a (.val .str (([]:List UInt8):List UInt8))),(.a .nilsl),(.a .nilsl),(.a .nilsl),(.a .nilsl),(.a (.val (.int .i64) ((0:Int):Int))),(.a (.val .bool (false:Bool))),(.a (.val .str (([]:List UInt8):List UInt8))),(.a (.val (.int .i64) ((0:Int):Int)))]) true .none))]
def tt:TT:=tt0++Ct7 233 32000 3 32000 256000
abbrev nK(R:Type):ASt→(Ex→ASt→Option R)→Option R:=fun _ _=>none
abbrev wq0:Aou:=(.val (.int .i64))
abbrev wq1:Nat×Acy:=(0,.one (.ptr 0))
abbrev wq2:Nat×Acy:=(1,.one (.ptr 0))
abbrev wq3:Nat×Acy:=(3,.one (.fn 44))
abbrev wq4:Nat×Acy:=(2,.one (.ptr 0))
abbrev wq5:Nat×Acy:=(1,.one (.ptr 32))
abbrev wq6:Nat×Acy:=(3,.one (.ptr 32))
abbrev wq7:Nat×Acy:=(4,.one (.ptr 32))
abbrev wq8:Nat×Acy:=(0,.one (.slf 32))
abbrev wq9:Nat×Acy:=(0,.one (.val z4))
abbrev C14:Nat×Acy:=(8,.one (.slf 32))
abbrev Cl9:Nat×Acy:=(0,.one (.val z6))
abbrev C15:Nat×Acy:=(0,.one (.ptr 32))
abbrev Cu7:Nat×Acy:=(0,.one (.val z3))
abbrev Cu8:Nat×Acy:=(8,.one (.ptr 32))
abbrev De6:List Aou:=[(.ptr 0),(.slf 1)]
abbrev C7y:Nat×Acy:=(80,.one (.val z4))
abbrev Cu9:Nat×Acy:=(11,.one (.ptr 33))
abbrev Cf0:List (Nat×Acy):=[wq1]
abbrev Cva:Nat×Acy:=(0,.one (.val .str))
abbrev C16:Nat×Acy:=(2,.one (.val .str))
abbrev C7z:Nat×Acy:=(0,.one (.val .bool))
abbrev Dcp:Nat×Ae7:=(1,.row 5 (.int .u8))
abbrev Dcq:Nat×Acy:=(6,.one (.val .bool))
abbrev Dcr:Nat×Acy:=(2,.one (.val .bool))
abbrev Cma:Nat×Acy:=(4,.one (.val .bool))
abbrev Dcs:Nat×Acy:=(8,.one (.val .bool))
abbrev C70:Nat×Acy:=(1,.one (.val .bool))
abbrev C17:Nat×Acy:=(1,.one (.fnp 39 [0]))
abbrev C18:Nat×Acy:=(2,.one (.fnp 41 [0]))
abbrev C71:Nat×Ae7:=(33,.row 5 (.int .u8))
abbrev Dct:Nat×Ae7:=(34,.row 5 (.int .u8))
abbrev Amm:List (Nat×Acy):=[C7z]
abbrev C19:List (Nat×Acy):=[Dcq]
abbrev B01:List (Nat×Acy):=[Dcr]
abbrev Cmb:Nat×Ae7:=(33,.row 3 (.int .i64))
abbrev C72:Nat×Ae7:=(32,.row 3 (.int .i64))
abbrev C2a:List (Nat×Acy):=[Dcs]
abbrev De7:Nat×Ae7:=(37,.row 3 (.int .i64))
abbrev De8:Nat×Ae7:=(2,.cells 67 [(.ptr 0)])
abbrev De9:Nat×Ae7:=(0,.cells 67 [(.ptr 1)])
abbrev C73:Aou:=(.val (.list (.int .i64)))
abbrev Cf1:List (Nat×Ae7):=[C72]
abbrev A8d:Nat×Acy:=(3,.one wq0)
abbrev Cmc:Nat×Acy:=(4,.one wq0)
abbrev Aim:Nat×Acy:=(1,.one wq0)
abbrev Baw:Nat×Acy:=(0,.one wq0)
abbrev Aui:Nat×Acy:=(2,.one wq0)
abbrev Cmd:Nat×Acy:=(5,.one wq0)
abbrev B02:Nat×Acy:=(6,.one wq0)
abbrev Bqb:Nat×Acy:=(9,.one wq0)
abbrev Bc6:Nat×Acy:=(7,.one wq0)
abbrev Cvb:Nat×Acy:=(8,.one wq0)
abbrev Dcu:Nat×Ae7:=(1000,.row 233 (.int .i64))
abbrev B64:Nat×Acy:=(10,.one wq0)
abbrev C2b:Nat×Acy:=(11,.one wq0)
abbrev C74:Nat×Acy:=(81,.one wq0)
abbrev C75:Nat×Acy:=(82,.one wq0)
abbrev C76:Nat×Acy:=(1,.one (.fnp 298 [14,15]))
abbrev Afp:List (Nat×Acy):=[Baw]
abbrev Cvc:List (Nat×Acy):=[Aui]
abbrev Cme:List (Nat×Acy):=[B02]
abbrev Dfa:Nat×Ae7:=(3,.cells 69 [(.fnp 79 [2])])
abbrev Dfb:Nat×Ae7:=(3,.cells 69 [(.fnp 79 [0])])
abbrev Cmf:List Aou:=[wq0,(.val .bool)]
abbrev Dfc:Nat×Ae7:=(0,.cells 243 De6)
abbrev C77:Nat×Acy:=(0,.one C73)
abbrev B65:Nat×Acy:=(1,.agg Cmf)
abbrev B03:List (Nat×Acy):=[wq1,Aim]
abbrev Dcv:Nat×Ae7:=(32,.cells 37 Cmf)
abbrev C78:List (Nat×Acy):=[wq9,A8d]
abbrev C79:List (Nat×Acy):=[wq9,Aim]
abbrev C8a:List (Nat×Acy):=[wq8,Aim]
abbrev B04:List (Nat×Acy):=[wq1,C76]
abbrev C2c:List (Nat×Ae7):=[C72,Cmb]
abbrev C2d:List Aou:=[(.val .str),(.val z3),(.val z1),(.val z4),(.val z6)]
abbrev C2e:List Aou:=[wq0,wq0,wq0]
abbrev A2n:List (Nat×Acy):=[Baw,Aim]
abbrev Cvd:List (Nat×Acy):=[Cmc,Cmd]
abbrev C8b:List (Nat×Ae7):=[Dfc,Dcp]
abbrev Dfd:List Aou:=[(.val .str),(.val z3),(.val z1),(.val z4),(.val z6),(.mp 1)]
abbrev Dfe:List Aou:=[(.val .str),(.val z3),(.val z1),(.val z4),(.val z6),(.mp 2)]
abbrev Cmg:Nat×Acy:=(0,.agg C2d)
abbrev C8c:List (Nat×Acy):=[Cmg]
abbrev C2f:Nat×Acy:=(0,.agg C2e)
abbrev Cmh:Nat×Ae7:=(0,.cells 27 C2d)
abbrev Cve:Nat×Ae7:=(32,.cells 27 C2d)
abbrev C8d:List Aou:=[(.val .str),wq0,wq0,wq0]
abbrev B66:List (Nat×Ae7):=[Cmh]
abbrev Cvf:List (Nat×Ae7):=[Cve]
abbrev C2g:Nat×Ae7:=(32,.cells 141 C2e)
abbrev C8e:List (Nat×Ae7):=[Dcv,Cmb]
abbrev Cmi:List (Nat×Acy):=[wq1,Aim,Aui]
abbrev Dff:Nat×Ae7:=(0,.cells 72 Dfd)
abbrev Dfg:Nat×Ae7:=(1,.cells 72 Dfe)
abbrev C8f:Nat×Acy:=(2,.agg C8d)
abbrev C2h:List Aou:=[(.val .str),(.val z3),(.val z4),(.val z1),wq0,wq0]
abbrev Ax7:List (Nat×Acy):=[Baw,Aim,Aui]
abbrev Dfh:Nat×Ae7:=(33,.cells 217 C8d)
abbrev Dcw:List Aou:=[(.val .str),wq0,wq0,wq0,wq0]
abbrev C86:Nat×Acy:=(0,.agg C2h)
abbrev Cbj:List (Nat×Acy):=[C86]
abbrev C87:List Aou:=[wq0,wq0,wq0,wq0,wq0]
abbrev Cbk:Nat×Ae7:=(32,.cells 139 C2h)
abbrev C2i:Nat×Acy:=(0,.agg Dcw)
abbrev C2j:List (Nat×Ae7):=[Cbk]
abbrev Cbl:Nat×Acy:=(0,.agg C87)
abbrev C2k:List (Nat×Acy):=[wq1,Aui,Bc6,Cvb]
abbrev Csw:List (Nat×Acy):=[Cbl]
abbrev Csx:List (Nat×Acy):=[Baw,Aim,Aui,A8d]
abbrev Cjh:List (Nat×Acy):=[Cbl,wq2]
abbrev Bc7:List (Nat×Acy):=[Cbl,Aim,wq4]
abbrev C2l:List (Nat×Ae7):=[C2g,Dfh]
abbrev Den:List Aou:=[wq0,(.val .bool),(.ptr 1000),wq0,wq0,(.val z4),(.same .nilfn),(.same .nilfn),(.same .nilfn),(.slf 34),(.val .bool),(.val .str),wq0,wq0,wq0,wq0,wq0,(.same .nilsl),(.same .nilmap),(.val .str),wq0,(.po 36),(.mp 35),.any,(.slf 37)]
abbrev Deo:Nat×Ae7:=(33,.cells 110 Den)
abbrev Cji:List (Nat×Ae7):=[Dcv,Deo,Dct,(35,.pmap 107 .i64 36),(36,.pool 211 z9),De7,Dcu]
abbrev Csy:List (Nat×Ae7):=[Dff,(1,.fmap 70 .i64 [(3:Int),(4:Int),(5:Int),(13:Int),(38:Int),(39:Int),(1:Int),(6:Int),(7:Int),(8:Int),(21:Int),(22:Int),(23:Int),(24:Int),(25:Int),(26:Int),(27:Int),(28:Int),(29:Int),(30:Int),(31:Int),(32:Int),(33:Int),(34:Int),(35:Int),(36:Int),(37:Int),(9:Int),(10:Int),(11:Int),(2:Int),(12:Int),(14:Int),(15:Int)] [(.fn 78),(.fn 78),(.fn 78),(.fn 78),(.fn 78),(.fn 78),(.fnp 79 [2]),(.fnp 79 [2]),(.fnp 79 [2]),(.fnp 79 [2]),(.fnp 79 [2]),(.fnp 79 [2]),(.fnp 79 [2]),(.fnp 79 [2]),(.fnp 79 [2]),(.fnp 79 [2]),(.fnp 79 [2]),(.fnp 79 [2]),(.fnp 79 [2]),(.fnp 79 [2]),(.fnp 79 [2]),(.fnp 79 [2]),(.fnp 79 [2]),(.fnp 79 [2]),(.fnp 79 [2]),(.fnp 79 [2]),(.fnp 79 [2]),(.fnp 81 [2]),(.fnp 81 [2]),(.fnp 81 [2]),(.fnp 83 [3]),(.fn 84),(.fnp 85 [2]),(.fnp 86 [2])]),De8,Dfa]
abbrev Bul:List (Nat×Ae7):=[De9,Dfg,(2,.fmap 70 .i64 [(3:Int),(4:Int),(5:Int),(13:Int),(38:Int),(39:Int),(1:Int),(6:Int),(7:Int),(8:Int),(21:Int),(22:Int),(23:Int),(24:Int),(25:Int),(26:Int),(27:Int),(28:Int),(29:Int),(30:Int),(31:Int),(32:Int),(33:Int),(34:Int),(35:Int),(36:Int),(37:Int),(9:Int),(10:Int),(11:Int),(2:Int),(12:Int),(14:Int),(15:Int)] [(.fn 78),(.fn 78),(.fn 78),(.fn 78),(.fn 78),(.fn 78),(.fnp 79 [0]),(.fnp 79 [0]),(.fnp 79 [0]),(.fnp 79 [0]),(.fnp 79 [0]),(.fnp 79 [0]),(.fnp 79 [0]),(.fnp 79 [0]),(.fnp 79 [0]),(.fnp 79 [0]),(.fnp 79 [0]),(.fnp 79 [0]),(.fnp 79 [0]),(.fnp 79 [0]),(.fnp 79 [0]),(.fnp 79 [0]),(.fnp 79 [0]),(.fnp 79 [0]),(.fnp 79 [0]),(.fnp 79 [0]),(.fnp 79 [0]),(.fnp 81 [0]),(.fnp 81 [0]),(.fnp 81 [0]),(.fnp 83 [3]),(.fn 84),(.fnp 85 [0]),(.fnp 86 [0])]),Dfb]
def Bqc:Code:=Tryz.f7.body.getD .skip
def B2i:Code:=Tryz.f21.body.getD .skip
def Ar1:Code:=Tryz.f12.body.getD .skip
def Aj3:Aac:=⟨[wq5,A8d,Cmc],Cvf⟩
def Awu:Aac:=⟨[A8d],[]⟩
def Bqd:Afc:=.cons (.exit 0) Awu (.nil)
abbrev Bax(R:Type):=Int->Int->(List UInt8)->d4->d2->d3->d5->(Int->Option R)->Option R
abbrev Bqe(R:Type):=Int->Int->(List UInt8)->d4->d2->d3->d5->Option R
abbrev A0p:={R:Type}→Nat→Nat→Bax R
def A0q{R:Type}(N:Nat)(rc:Bqe R):Bax R:=fun c a d b e f g h=>if ((decide (a<(len b)))=true) then (if (0≤a∧a<len b) then (if (0≤a∧a<len b) then (rc (wi (c+(wi ((((List.length (b.getD a.toNat (([]:List UInt8),(false,([]:List Int)))).2.2):Nat):Int)+(((List.length (b.getD a.toNat (([]:List UInt8),(false,([]:List Int)))).1):Nat):Int))))) (wi (a+1)) d b e f g) else none) else none) else h c
def Ae8{R:Type}(N:Nat):Nat→Bax R
 |0=>fun _ _ _ _ _ _ _ _=>none
 |k+1=>fun a b c d e f g h=>A0q N (fun a b c d e f g=>Ae8 N k a b c d e f g h) a b c d e f g h
def Bay(Ae8:A0p)(N k:Nat):Aa7 Aj3:=fun R x K=>Ae8 N k x.1.2.1 x.1.2.2.1 x.2.1.1 x.2.1.2.1 x.2.1.2.2.1 x.2.1.2.2.2.1 x.2.1.2.2.2.2.1 (fun y0=>K (.exit 0) (Aaf Awu ((y0,()),(()))))
def Baz(N k:Nat):Aa7 Aj3:=Bay @Ae8 N k
def Blb:Aac:=⟨C8c,[]⟩
def A3j:Aac:=⟨Amm,[]⟩
abbrev Cqj(R:Type):=(List UInt8)->d4->d2->d3->d5->(Bool->Option R)->Option R
abbrev A1x:={R:Type}→Nat→Cqj R
def Blc(Ae8:A0p):A1x:=fun {R} N b c d e f a=>if ((decide ((len f) > 33000))=true) then (a true) else if ((decide ((len e) > 300))=true) then (a true) else if ((decide ((len c) > 2100))=true) then (a true) else if ((decide ((len d) > 300))=true) then (a true) else if ((decide ((len b) > 1000))=true) then (a true) else Ae8 N N 0 0 b c d e f fun g=>a (decide (g > 20000))
def Akn:A1x:=@Blc @Ae8
def Dbh(N:Nat):Aas Blb [A3j]:=fun R x C=>Akn N x.1.1.1 x.1.1.2.1 x.1.1.2.2.1 x.1.1.2.2.2.1 x.1.1.2.2.2.2.1 (fun y0=>C.1 ((y0,()),(())))
def B2j(Akn:A1x)(N:Nat):Go.AX.Aad:=Aaz [true] [] false 1 0 Blb [A3j] (fun R x C=>Akn N x.1.1.1 x.1.1.2.1 x.1.1.2.2.1 x.1.1.2.2.2.1 x.1.1.2.2.2.2.1 (fun y0=>C.1 ((y0,()),(()))))
def B2k(N:Nat):Go.AX.Aad:=B2j @Akn N
def Dbi(N:Nat):List (Nat×Aa6):=[(11,Aab Aj3 (Baz N N))]
def Cqk(N:Nat):List (Nat×Go.AX.Aad):=[]
def Bld:Aac:=⟨[(0,.agg [(.val .str),(.val z3),(.val z1),(.val z4),(.val z6),wq0,(.val .bool),(.val .str),wq0])],[]⟩
def A3k:Aac:=⟨Amm,[]⟩
abbrev Cql(R:Type):=(List UInt8)->d4->d2->d3->d5->Int->Bool->(List UInt8)->Int->(Bool->Option R)->Option R
abbrev A1y:={R:Type}→Nat→Cql R
def Awh(Akn:A1x):A1y:=fun {R} N d e f g h j l b c a=>Akn N d e f g h fun i=>if (i=true) then (a true) else if ((decide (c > 20000))=true) then (if ((decide (c≤400000000))=true) then (a true) else a (decide ((len b) > 60010))) else a (decide ((len b) > 60010))
def Aig:A1y:=@Awh @Akn
def Dbj(N:Nat):Aas Bld [A3k]:=fun R x C=>Aig N x.1.1.1 x.1.1.2.1 x.1.1.2.2.1 x.1.1.2.2.2.1 x.1.1.2.2.2.2.1 x.1.1.2.2.2.2.2.1 x.1.1.2.2.2.2.2.2.1 x.1.1.2.2.2.2.2.2.2.1 x.1.1.2.2.2.2.2.2.2.2.1 (fun y0=>C.1 ((y0,()),(())))
def B2l(Aig:A1y)(N:Nat):Go.AX.Aad:=Aaz [true] [] false 1 0 Bld [A3k] (fun R x C=>Aig N x.1.1.1 x.1.1.2.1 x.1.1.2.2.1 x.1.1.2.2.2.1 x.1.1.2.2.2.2.1 x.1.1.2.2.2.2.2.1 x.1.1.2.2.2.2.2.2.1 x.1.1.2.2.2.2.2.2.2.1 x.1.1.2.2.2.2.2.2.2.2.1 (fun y0=>C.1 ((y0,()),(()))))
def B2m(N:Nat):Go.AX.Aad:=B2l @Aig N
def Dbk(N:Nat):List (Nat×Aa6):=[]
def Cqm(N:Nat):List (Nat×Go.AX.Aad):=[(12,B2k N)]
def Ble(N:Nat):Go.AX.Aad:=B0n
def Cjj:Code:=Tryz.f22.body.getD .skip
def B67:Code:=Tryz.f61.body.getD .skip
def Auj:Code:=Tryz.f14.body.getD .skip
def Ake:Code:=Tryz.f38.body.getD .skip
def Ajw:Aac:=⟨[C17,C18,wq6,(8,.one (.ptr 33)),(34,.one wq0),(35,.one wq0)],[Cmh,Cve,(33,.cells 139 [(.val .str),(.val z3),(.slf 34),(.val z1),wq0,wq0]),(34,.row 141 z2)]⟩
def Aym:Aac:=⟨[C17,C18,wq6,(8,.one (.ptr 33))],[Cmh,Cve,(33,.cells 139 [(.val .str),(.val z3),(.slf 34),(.val z1),wq0,wq0]),(34,.row 141 z2)]⟩
def Bum:Afc:=.cons (.exit 0) Aym (.nil)
abbrev Bc8(R:Type):=Int->Int->(List UInt8)->d4->d2->d3->d5->(List UInt8)->d4->d2->d3->d5->(List UInt8)->d4->d2->Int->Int->d3->((List UInt8)->d4->d2->d3->d5->(List UInt8)->d4->d2->d3->d5->(List UInt8)->d4->d2->Int->Int->d3->Option R)->Option R
abbrev Bun(R:Type):=Int->Int->(List UInt8)->d4->d2->d3->d5->(List UInt8)->d4->d2->d3->d5->(List UInt8)->d4->d2->Int->Int->d3->Option R
abbrev Awv:={R:Type}→Nat→Nat→Bc8 R
def A3l{R:Type}(N:Nat)(rc:Bun R):Bc8 R:=fun c d e f g h i j l m n o p q r s t a u=>if ((decide (d<c))=true) then (let b:=(wi (d+1));if ((((List.length a)+(List.length ((24,(b,0))::[(26,(0,0))])))*(24:Nat))≤(70368744177664:Nat)) then (rc c b e f g h i j l m n o p q r s t (a++((24,(b,0))::[(26,(0,0))]))) else none) else u e f g h i j l m n o p q r s t a
def Aep{R:Type}(N:Nat):Nat→Bc8 R
 |0=>fun _ _ _ _ _ _ _ _ _ _ _ _ _ _ _ _ _ _ _=>none
 |k+1=>fun a b c d e f g h i j l m n o p q r s t=>A3l N (fun a b c d e f g h i j l m n o p q r s=>Aep N k a b c d e f g h i j l m n o p q r s t) a b c d e f g h i j l m n o p q r s t
def A3m(Aep:Awv)(N k:Nat):Aa7 Ajw:=fun R x K=>Aep N k x.1.2.2.2.2.1 x.1.2.2.2.2.2.1 x.2.1.1 x.2.1.2.1 x.2.1.2.2.1 x.2.1.2.2.2.1 x.2.1.2.2.2.2.1 x.2.2.1.1 x.2.2.1.2.1 x.2.2.1.2.2.1 x.2.2.1.2.2.2.1 x.2.2.1.2.2.2.2.1 x.2.2.2.1.1 x.2.2.2.1.2.1 x.2.2.2.1.2.2.2.1 x.2.2.2.1.2.2.2.2.1 x.2.2.2.1.2.2.2.2.2.1 x.2.2.2.2.1 (fun y0 y1 y2 y3 y4 y5 y6 y7 y8 y9 y10 y11 y12 y13 y14 y15=>K (.exit 0) (Aaf Aym (((),(),(),(),()),((y0,y1,y2,y3,y4,()),(y5,y6,y7,y8,y9,()),(y10,y11,(),y12,y13,y14,()),y15,()))))
def Bc9(N k:Nat):Aa7 Ajw:=A3m @Aep N k
def B2n:Code:=Tryz.f77.body.getD .skip
def Ar2:Code:=Tryz.f132.body.getD .skip
def Aj4:Aac:=⟨[A8d,(27,.one (.val z3)),(28,.one wq0),(29,.one wq0)],[]⟩
def Aww:Aac:=⟨[A8d],[]⟩
def Bqf:Afc:=.cons (.exit 0) Aww (.nil)
abbrev Ba0(R:Type):=Int->d4->Int->Int->(Int->Option R)->Option R
abbrev Bqg(R:Type):=Int->d4->Int->Int->Option R
abbrev A0r:={R:Type}→Nat→Nat→Ba0 R
def A0s{R:Type}(N:Nat)(rc:Bqg R):Ba0 R:=fun d b c a f=>if ((decide (a<c))=true) then (if (0≤a∧a<len b) then (let e:=(wi (d+(((List.length (b.getD a.toNat (([]:List UInt8),(false,([]:List Int)))).2.2):Nat):Int)));if ((b.getD a.toNat (([]:List UInt8),(false,([]:List Int)))).2.1=true) then (rc (wi (e+(wi (Int.tdiv (wi ((((List.length (b.getD a.toNat (([]:List UInt8),(false,([]:List Int)))).1):Nat):Int)+2)) 2)))) b c (wi (a+1))) else rc e b c (wi (a+1))) else none) else f d
def Ae9{R:Type}(N:Nat):Nat→Ba0 R
 |0=>fun _ _ _ _ _=>none
 |k+1=>fun a b c d e=>A0s N (fun a b c d=>Ae9 N k a b c d e) a b c d e
def Ba1(Ae9:A0r)(N k:Nat):Aa7 Aj4:=fun R x K=>Ae9 N k x.1.1 x.1.2.1 x.1.2.2.1 x.1.2.2.2.1 (fun y0=>K (.exit 0) (Aaf Aww ((y0,()),(()))))
def Ba2(N k:Nat):Aa7 Aj4:=Ba1 @Ae9 N k
def Blf:Aac:=⟨Cbj,[]⟩
def A3n:Aac:=⟨Amm,[]⟩
abbrev Cqn(R:Type):=(List UInt8)->d4->d3->d2->Int->Int->(Bool->Option R)->Option R
abbrev A1z:={R:Type}→Nat→Cqn R
def Blg(Ae9:A0r):A1z:=fun {R} N g b c h d e a=>if ((decide ((len c) > 40000))=true) then (a true) else if ((decide ((len b) > 2000))=true) then (a true) else if ((decide (d > 200))=true) then (a true) else if ((decide (e > 20000))=true) then (a true) else Ae9 N N 0 b (len b) 0 fun f=>a (decide (f > 7800))
def Ako:A1z:=@Blg @Ae9
def Dbl(N:Nat):Aas Blf [A3n]:=fun R x C=>Ako N x.1.1.1 x.1.1.2.1 x.1.1.2.2.1 x.1.1.2.2.2.1 x.1.1.2.2.2.2.1 x.1.1.2.2.2.2.2.1 (fun y0=>C.1 ((y0,()),(())))
def B2o(Ako:A1z)(N:Nat):Go.AX.Aad:=Aaz [true] [] false 1 0 Blf [A3n] (fun R x C=>Ako N x.1.1.1 x.1.1.2.1 x.1.1.2.2.1 x.1.1.2.2.2.1 x.1.1.2.2.2.2.1 x.1.1.2.2.2.2.2.1 (fun y0=>C.1 ((y0,()),(()))))
def B2p(N:Nat):Go.AX.Aad:=B2o @Ako N
def Dbm(N:Nat):List (Nat×Aa6):=[(11,Aab Aj4 (Ba2 N N))]
def Cqo(N:Nat):List (Nat×Go.AX.Aad):=[]
def Ahg:Code:=Tryz.f133.body.getD .skip
def Ax8:Code:=Tryz.f196.body.getD .skip
def Amu:Code:=Tryz.f273.body.getD .skip
def Aqw(N:Nat):Go.AX.Aad:=Bla 243 5
def Aib:Aac:=⟨[wq1,(1,.one (.val (.int .u8)))],[(0,.cells 243 [(.same .nilptr),(.slf 1)]),Dcp]⟩
def Ali:Aac:=⟨[(0,.one (.same .nilif))],C8b⟩
abbrev Bjg(R:Type):=Int->d0->(d0->Option R)->Option R
abbrev Ajz:={R:Type}→Nat→Bjg R
def Ab0:Ajz:=fun {R} N a b c=>if ((((List.length b)+(List.length (a::([]:List Int))))*(1:Nat))≤(70368744177664:Nat)) then (c (b++(a::([]:List Int)))) else none
def Bjh(N:Nat):Aas Aib [Ali]:=fun R x C=>Ab0 N x.1.2.1 x.2.2.1 (fun y0=>C.1 (((),()),(((),(),()),y0,())))
def Aqx(Ab0:Ajz)(N:Nat):Go.AX.Aad:=Aaz [false,true] (List.replicate 32 true) true 2 2 Aib [Ali] (fun R x C=>Ab0 N x.1.2.1 x.2.2.1 (fun y0=>C.1 (((),()),(((),(),()),y0,()))))
def A0d(N:Nat):Go.AX.Aad:=Aqx @Ab0 N
def Bji(N:Nat):List (Nat×Aa6):=[]
def A0e(N:Nat):List (Nat×Go.AX.Aad):=[(300,Aqw N)]
def Avl(N:Nat):Go.AX.Aad:=Bk9
def Aow:Aac:=⟨[wq1,(1,.one (.val (.int .u8)))],C8b⟩
def Aj5:Aac:=⟨[(0,.one (.same .nilif))],C8b⟩
abbrev Bda(R:Type):=Int->d0->(d0->Option R)->Option R
abbrev Ag6:={R:Type}→Nat→Bda R
def Aa2:Ag6:=fun {R} N a b c=>if ((((List.length b)+(List.length (a::([]:List Int))))*(1:Nat))≤(70368744177664:Nat)) then (c (b++(a::([]:List Int)))) else none
def Bdb(N:Nat):Aas Aow [Aj5]:=fun R x C=>Aa2 N x.1.2.1 x.2.2.1 (fun y0=>C.1 (((),()),(((),(),()),y0,())))
def Aox(Aa2:Ag6)(N:Nat):Go.AX.Aad:=Aaz [false,true] (List.replicate 32 true) true 2 2 Aow [Aj5] (fun R x C=>Aa2 N x.1.2.1 x.2.2.1 (fun y0=>C.1 (((),()),(((),(),()),y0,()))))
def Awx(N:Nat):Go.AX.Aad:=Aox @Aa2 N
def Bdc(N:Nat):List (Nat×Aa6):=[]
def Awy(N:Nat):List (Nat×Go.AX.Aad):=[(300,Aqw N)]
def Ane:Aac:=⟨[Cva,wq7,B64,C2b],[(32,.cells 243 [(.ptr 32),(.slf 33)]),C71]⟩
def A3o:Aac:=⟨[C16,A8d],[]⟩
def A3p:Aac:=⟨[Cva,wq7],[(32,.cells 243 [(.ptr 32),(.slf 33)]),C71]⟩
def B2q:Afc:=.cons .ret A3o (.cons (.exit 0) A3p (.nil))
abbrev Blh(R:Type):=(List UInt8)->Int->Int->d0->((List UInt8)->Int->Option R)->((List UInt8)->d0->Option R)->Option R
abbrev B2r(R:Type):=(List UInt8)->Int->Int->d0->Option R
abbrev A97:={R:Type}→Nat→Nat→Blh R
def A98(Aa2:Ag6){R:Type}(N:Nat)(rc:B2r R):Blh R:=fun b e a f g h=>if ((decide (a<e))=true) then (if (0≤a∧a<len b) then (let c:=(((UInt8.toNat (b.getD a.toNat (0:UInt8))):Nat):Int);let d:=(Bxh [(10:UInt8),(9:UInt8),(42:UInt8),(34:UInt8)] c);if ((decide (d≥0))=true) then (Aa2 N 42 f fun i=>if ((0≤d)∧(d<4)) then (Aa2 N (((UInt8.toNat (List.getD [(110:UInt8),(116:UInt8),(42:UInt8),(34:UInt8)] (Int.toNat d) (0:UInt8))):Nat):Int) i fun j=>rc b e (wi (a+1)) j) else none) else if ((decide (c<32))=true) then (g ([]:List UInt8) 3) else if ((decide (c > 126))=true) then (g ([]:List UInt8) 3) else Aa2 N c f fun l=>rc b e (wi (a+1)) l) else none) else h b f
def Ahe{R:Type}(N:Nat):Nat→Blh R
 |0=>fun _ _ _ _ _ _=>none
 |k+1=>fun a b c d e f=>A98 @Aa2 N (fun a b c d=>Ahe N k a b c d e f) a b c d e f
def Bli(Ahe:A97)(N k:Nat):Aa7 Ane:=fun R x K=>Ahe N k x.1.1 x.1.2.2.1 x.1.2.2.2.1 x.2.2.1 (fun y0 y1=>K .ret (Aaf A3o ((y0,y1,()),(())))) (fun y0 y1=>K (.exit 0) (Aaf A3p ((y0,(),()),(((),(),()),y1,()))))
def Blj(N k:Nat):Aa7 Ane:=Bli @Ahe N k
def Aoy(N:Nat):Go.AX.Aad:=Bn6 243 5
def Bv5:Aac:=⟨[Cva],[]⟩
def A99:Aac:=⟨[Cva,Aim],[]⟩
abbrev Cyc(R:Type):=(List UInt8)->((List UInt8)->Int->Option R)->Option R
abbrev Al3:={R:Type}→Nat→Cyc R
def Bv6(Ab0:Ajz)(Ahe:A97)(Aa2:Ag6):Al3:=fun {R} N c b=>Ab0 N 34 ([]:List Int) fun d=>Ahe N N c (len c) 0 d (fun e f=>b e f) fun g h=>if ((decide ((len g) > 100))=true) then (b ([]:List UInt8) 2) else Aa2 N 34 h fun a=>if (((0:Nat)<(List.length a))∧(((List.length a)≤(70368744177664:Nat))∧((Auh a)=true))) then (b (Bn5 a) 0) else none
def Adf:Al3:=@Bv6 @Ab0 @Ahe @Aa2
def Ddw(N:Nat):Aas Bv5 [A99]:=fun R x C=>Adf N x.1.1 (fun y0 y1=>C.1 ((y0,y1,()),(())))
def At3(Adf:Al3)(N:Nat):Go.AX.Aad:=Aaz [true] [] false 1 0 Bv5 [A99] (fun R x C=>Adf N x.1.1 (fun y0 y1=>C.1 ((y0,y1,()),(()))))
def Bv7(N:Nat):Go.AX.Aad:=At3 @Adf N
def Ddx(N:Nat):List (Nat×Aa6):=[(9,Aab Ane (Blj N N))]
def Cyd(N:Nat):List (Nat×Go.AX.Aad):=[(273,Bph 2 Aib (A0d N) (Awx N)),(274,Avl N),(275,Aoy N)]
def B2s:Code:=Tryz.f197.body.getD .skip
def Blk:Aac:=⟨[],[]⟩
def A3q:Aac:=⟨[(0,.agg [(.val .str),wq0,wq0,wq0,(.val .str),wq0,wq0,wq0,(.val .str),wq0,wq0,wq0,(.val .str),wq0,wq0,wq0,(.val .str),wq0,wq0,wq0,(.val .str),wq0,wq0,wq0,(.val .str),wq0,wq0,wq0,(.val .str),wq0,wq0,wq0,(.val .str),wq0,wq0,wq0,(.val .str),wq0,wq0,wq0,(.val .str),wq0,wq0,wq0,(.val .str),wq0,wq0,wq0,(.val .str),wq0,wq0,wq0,(.val .str),wq0,wq0,wq0,(.val .str),wq0,wq0,wq0,(.val .str),wq0,wq0,wq0,(.val .str),wq0,wq0,wq0,(.val .str),wq0,wq0,wq0,(.val .str),wq0,wq0,wq0,(.val .str),wq0,wq0,wq0,(.val .str),wq0,wq0,wq0,(.val .str),wq0,wq0,wq0,(.val .str),wq0,wq0,wq0,(.val .str),wq0,wq0,wq0,(.val .str),wq0,wq0,wq0,(.val .str),wq0,wq0,wq0,(.val .str),wq0,wq0,wq0,(.val .str),wq0,wq0,wq0,(.val .str),wq0,wq0,wq0,(.val .str),wq0,wq0,wq0,(.val .str),wq0,wq0,wq0])],[]⟩
abbrev Cqp(R:Type):=((List UInt8)->Int->Int->Int->(List UInt8)->Int->Int->Int->(List UInt8)->Int->Int->Int->(List UInt8)->Int->Int->Int->(List UInt8)->Int->Int->Int->(List UInt8)->Int->Int->Int->(List UInt8)->Int->Int->Int->(List UInt8)->Int->Int->Int->(List UInt8)->Int->Int->Int->(List UInt8)->Int->Int->Int->(List UInt8)->Int->Int->Int->(List UInt8)->Int->Int->Int->(List UInt8)->Int->Int->Int->(List UInt8)->Int->Int->Int->(List UInt8)->Int->Int->Int->(List UInt8)->Int->Int->Int->(List UInt8)->Int->Int->Int->(List UInt8)->Int->Int->Int->(List UInt8)->Int->Int->Int->(List UInt8)->Int->Int->Int->(List UInt8)->Int->Int->Int->(List UInt8)->Int->Int->Int->(List UInt8)->Int->Int->Int->(List UInt8)->Int->Int->Int->(List UInt8)->Int->Int->Int->(List UInt8)->Int->Int->Int->(List UInt8)->Int->Int->Int->(List UInt8)->Int->Int->Int->(List UInt8)->Int->Int->Int->(List UInt8)->Int->Int->Int->(List UInt8)->Int->Int->Int->Option R)->Option R
abbrev Al4:={R:Type}→Nat→Cqp R
def Acp:Al4:=fun {R} N a=>a ([]:List UInt8) 0 0 0 ([(110:UInt8),(117:UInt8),(109:UInt8)]) 1 0 1 ([(108:UInt8),(111:UInt8),(99:UInt8),(97:UInt8),(108:UInt8)]) 2 0 1 ([(112:UInt8),(117:UInt8),(116:UInt8),(108:UInt8)]) 2 1 0 ([(97:UInt8),(100:UInt8),(100:UInt8),(114:UInt8),(108:UInt8)]) 2 0 1 ([(103:UInt8),(108:UInt8),(111:UInt8),(98:UInt8),(97:UInt8),(108:UInt8)]) 3 0 1 ([(112:UInt8),(117:UInt8),(116:UInt8),(103:UInt8)]) 3 1 0 ([(97:UInt8),(100:UInt8),(100:UInt8),(114:UInt8),(103:UInt8)]) 3 0 1 ([(115:UInt8),(116:UInt8),(97:UInt8),(116:UInt8),(105:UInt8),(99:UInt8)]) 4 0 1 ([(112:UInt8),(117:UInt8),(116:UInt8),(115:UInt8)]) 4 1 0 ([(97:UInt8),(100:UInt8),(100:UInt8),(114:UInt8),(115:UInt8)]) 4 0 1 ([(112:UInt8),(114:UInt8),(111:UInt8),(99:UInt8)]) 5 0 1 ([(108:UInt8),(111:UInt8),(97:UInt8),(100:UInt8)]) 0 1 1 ([(115:UInt8),(116:UInt8),(111:UInt8),(114:UInt8),(101:UInt8)]) 0 2 0 ([(103:UInt8),(101:UInt8),(116:UInt8),(98:UInt8)]) 0 2 1 ([(112:UInt8),(117:UInt8),(116:UInt8),(98:UInt8)]) 0 3 0 ([(98:UInt8),(105:UInt8),(110:UInt8)]) 7 2 1 ([(117:UInt8),(110:UInt8)]) 8 1 1 ([(115:UInt8),(116:UInt8),(97:UInt8),(99:UInt8),(107:UInt8)]) 2 0 0 ([(108:UInt8),(97:UInt8),(98:UInt8),(101:UInt8),(108:UInt8)]) 6 0 0 ([(106:UInt8),(117:UInt8),(109:UInt8),(112:UInt8)]) 6 0 0 ([(116:UInt8),(114:UInt8),(117:UInt8),(101:UInt8)]) 6 1 0 ([(102:UInt8),(97:UInt8),(108:UInt8),(115:UInt8),(101:UInt8)]) 6 1 0 ([(99:UInt8),(97:UInt8),(108:UInt8),(108:UInt8)]) 2 0 0 ([(101:UInt8),(110:UInt8),(116:UInt8),(101:UInt8),(114:UInt8)]) 5 0 0 ([(114:UInt8),(101:UInt8),(116:UInt8),(117:UInt8),(114:UInt8),(110:UInt8)]) 0 1 0 ([(98:UInt8),(97:UInt8),(99:UInt8),(107:UInt8)]) 0 0 0 ([(114:UInt8),(101:UInt8),(115:UInt8),(117:UInt8),(108:UInt8),(116:UInt8)]) 6 1 0 ([(116:UInt8),(97:UInt8),(107:UInt8),(101:UInt8)]) 2 0 0 ([(115:UInt8),(119:UInt8),(105:UInt8),(116:UInt8),(99:UInt8),(104:UInt8)]) 6 1 0 ([(99:UInt8),(97:UInt8),(115:UInt8),(101:UInt8)]) 1 0 0
def Cqq(N:Nat):Aas Blk [A3q]:=fun R x C=>Acp N  (fun y0 y1 y2 y3 y4 y5 y6 y7 y8 y9 y10 y11 y12 y13 y14 y15 y16 y17 y18 y19 y20 y21 y22 y23 y24 y25 y26 y27 y28 y29 y30 y31 y32 y33 y34 y35 y36 y37 y38 y39 y40 y41 y42 y43 y44 y45 y46 y47 y48 y49 y50 y51 y52 y53 y54 y55 y56 y57 y58 y59 y60 y61 y62 y63 y64 y65 y66 y67 y68 y69 y70 y71 y72 y73 y74 y75 y76 y77 y78 y79 y80 y81 y82 y83 y84 y85 y86 y87 y88 y89 y90 y91 y92 y93 y94 y95 y96 y97 y98 y99 y100 y101 y102 y103 y104 y105 y106 y107 y108 y109 y110 y111 y112 y113 y114 y115 y116 y117 y118 y119 y120 y121 y122 y123=>C.1 (((y0,y1,y2,y3,y4,y5,y6,y7,y8,y9,y10,y11,y12,y13,y14,y15,y16,y17,y18,y19,y20,y21,y22,y23,y24,y25,y26,y27,y28,y29,y30,y31,y32,y33,y34,y35,y36,y37,y38,y39,y40,y41,y42,y43,y44,y45,y46,y47,y48,y49,y50,y51,y52,y53,y54,y55,y56,y57,y58,y59,y60,y61,y62,y63,y64,y65,y66,y67,y68,y69,y70,y71,y72,y73,y74,y75,y76,y77,y78,y79,y80,y81,y82,y83,y84,y85,y86,y87,y88,y89,y90,y91,y92,y93,y94,y95,y96,y97,y98,y99,y100,y101,y102,y103,y104,y105,y106,y107,y108,y109,y110,y111,y112,y113,y114,y115,y116,y117,y118,y119,y120,y121,y122,y123,()),()),(())))
def Ar3(Acp:Al4)(N:Nat):Go.AX.Aad:=Aaz [] [] false 0 0 Blk [A3q] (fun R x C=>Acp N  (fun y0 y1 y2 y3 y4 y5 y6 y7 y8 y9 y10 y11 y12 y13 y14 y15 y16 y17 y18 y19 y20 y21 y22 y23 y24 y25 y26 y27 y28 y29 y30 y31 y32 y33 y34 y35 y36 y37 y38 y39 y40 y41 y42 y43 y44 y45 y46 y47 y48 y49 y50 y51 y52 y53 y54 y55 y56 y57 y58 y59 y60 y61 y62 y63 y64 y65 y66 y67 y68 y69 y70 y71 y72 y73 y74 y75 y76 y77 y78 y79 y80 y81 y82 y83 y84 y85 y86 y87 y88 y89 y90 y91 y92 y93 y94 y95 y96 y97 y98 y99 y100 y101 y102 y103 y104 y105 y106 y107 y108 y109 y110 y111 y112 y113 y114 y115 y116 y117 y118 y119 y120 y121 y122 y123=>C.1 (((y0,y1,y2,y3,y4,y5,y6,y7,y8,y9,y10,y11,y12,y13,y14,y15,y16,y17,y18,y19,y20,y21,y22,y23,y24,y25,y26,y27,y28,y29,y30,y31,y32,y33,y34,y35,y36,y37,y38,y39,y40,y41,y42,y43,y44,y45,y46,y47,y48,y49,y50,y51,y52,y53,y54,y55,y56,y57,y58,y59,y60,y61,y62,y63,y64,y65,y66,y67,y68,y69,y70,y71,y72,y73,y74,y75,y76,y77,y78,y79,y80,y81,y82,y83,y84,y85,y86,y87,y88,y89,y90,y91,y92,y93,y94,y95,y96,y97,y98,y99,y100,y101,y102,y103,y104,y105,y106,y107,y108,y109,y110,y111,y112,y113,y114,y115,y116,y117,y118,y119,y120,y121,y122,y123,()),()),(()))))
def Bll(N:Nat):Go.AX.Aad:=Ar3 @Acp N
def Cqr(N:Nat):List (Nat×Aa6):=[]
def B2t(N:Nat):List (Nat×Go.AX.Aad):=[]
def Awz:Code:=Tryz.f198.body.getD .skip
def Cjk:Code:=Tryz.f277.body.getD .skip
def B05:Aac:=⟨Ax7,[]⟩
def Bdd:Aac:=⟨Amm,[]⟩
abbrev C2m(R:Type):=Int->Int->Int->(Bool->Option R)->Option R
abbrev Ajf:={R:Type}→Nat→C2m R
def Abg:Ajf:=fun {R} N a c d b=>if ((decide (a≥c))=true) then (b (decide (a≤d))) else b false
def C2n(N:Nat):Aas B05 [Bdd]:=fun R x C=>Abg N x.1.1 x.1.2.1 x.1.2.2.1 (fun y0=>C.1 ((y0,()),(())))
def Aqh(Abg:Ajf)(N:Nat):Go.AX.Aad:=Aaz [true,true,true] [] false 3 0 B05 [Bdd] (fun R x C=>Abg N x.1.1 x.1.2.1 x.1.2.2.1 (fun y0=>C.1 ((y0,()),(()))))
def Bde(N:Nat):Go.AX.Aad:=Aqh @Abg N
def C2o(N:Nat):List (Nat×Aa6):=[]
def Cjl(N:Nat):List (Nat×Go.AX.Aad):=[]
def Aln:Aac:=⟨[wq6,(4,.one (.ptr 33)),(7,.one (.val .bool))],[C2g,(33,.cells 139 C2h)]⟩
def A0t:Aac:=⟨C19,[]⟩
def Bjj:Afc:=.cons .ret A0t (.nil)
abbrev B68(R:Type):=Bool->Int->Int->Int->(List UInt8)->d4->d3->d2->Int->Int->(Bool->Option R)->Option R
abbrev Anu:={R:Type}→Nat→B68 R
def A4x(Abg:Ajf):Anu:=fun {R} N b d i c j l m n o e a=>if ((d==24)=true) then (if (b=true) then (Abg N c 0 8 fun f=>a f) else a false) else if ((d==29)=true) then (if (b=true) then (Abg N c 0 1000 fun g=>a g) else a false) else if ((d==30)=true) then (if (b=true) then (Abg N c 1 e fun h=>a h) else a false) else if (b=true) then (a (c==0)) else a false
def Ab3:Anu:=@A4x @Abg
def A4y(Ab3:Anu)(N:Nat):Aa7 Aln:=fun R x K=>Ab3 N x.1.2.2.1 x.2.1.1 x.2.1.2.1 x.2.1.2.2.1 x.2.2.1.1 x.2.2.1.2.1 x.2.2.1.2.2.1 x.2.2.1.2.2.2.1 x.2.2.1.2.2.2.2.1 x.2.2.1.2.2.2.2.2.1 (fun y0=>K .ret (Aaf A0t ((y0,()),(()))))
def Bjk(N:Nat):Aa7 Aln:=A4y @Ab3 N
def B69:Code:=Tryz.f276.body.getD .skip
def Bqh:Aac:=⟨Afp,[]⟩
def A7f:Aac:=⟨Amm,[]⟩
abbrev Cvg(R:Type):=Int->(Bool->Option R)->Option R
abbrev Aqy:={R:Type}→Nat→Cvg R
def Bqi(Abg:Ajf):Aqy:=fun {R} N a b=>Abg N a (-2147483648) 2147483647 fun c=>b c
def Afy:Aqy:=@Bqi @Abg
def Dcx(N:Nat):Aas Bqh [A7f]:=fun R x C=>Afy N x.1.1 (fun y0=>C.1 ((y0,()),(())))
def Bdf(Afy:Aqy)(N:Nat):Go.AX.Aad:=Aaz [true] [] false 1 0 Bqh [A7f] (fun R x C=>Afy N x.1.1 (fun y0=>C.1 ((y0,()),(()))))
def Bqj(N:Nat):Go.AX.Aad:=Bdf @Afy N
def Dcy(N:Nat):List (Nat×Aa6):=[]
def Cvh(N:Nat):List (Nat×Go.AX.Aad):=[(277,Bde N)]
def Bdg:Aac:=⟨[C2f,(1,.agg C2h),C8f],[]⟩
def Ayn:Aac:=⟨Amm,[]⟩
abbrev Cjm(R:Type):=Int->Int->Int->(List UInt8)->d4->d3->d2->Int->Int->(List UInt8)->Int->Int->Int->(Bool->Option R)->Option R
abbrev Amv:={R:Type}→Nat→Cjm R
def Bdh(Ab3:Anu)(Afy:Aqy)(Abg:Ajf):Amv:=fun {R} N e a f g b h i c d E l F G j=>if ((l==0)=true) then (Ab3 N (a==0) e a f g b h i c d fun m=>j m) else if ((l==1)=true) then (Afy N a fun n=>Ab3 N n e a f g b h i c d fun o=>j o) else if ((l==2)=true) then (Abg N a 0 4000 fun p=>Ab3 N p e a f g b h i c d fun q=>j q) else if ((l==3)=true) then (Abg N a 0 199 fun r=>Ab3 N r e a f g b h i c d fun s=>j s) else if ((l==4)=true) then (Abg N a 0 (wi ((len b)-1)) fun t=>Ab3 N t e a f g b h i c d fun u=>j u) else if ((l==5)=true) then (Abg N a 1 c fun v=>Ab3 N v e a f g b h i c d fun w=>j w) else if ((l==6)=true) then (Abg N a 1 d fun x=>Ab3 N x e a f g b h i c d fun y=>j y) else if ((l==7)=true) then (Abg N a 1 17 fun z=>Ab3 N z e a f g b h i c d fun A=>j A) else if ((l==8)=true) then (if ((a==18)=true) then (Ab3 N true e a f g b h i c d fun B=>j B) else Ab3 N (a==19) e a f g b h i c d fun C=>j C) else Ab3 N false e a f g b h i c d fun D=>j D
def Ad8:Amv:=@Bdh @Ab3 @Afy @Abg
def C88(N:Nat):Aas Bdg [Ayn]:=fun R x C=>Ad8 N x.1.1.1 x.1.1.2.1 x.1.1.2.2.1 x.1.2.1.1 x.1.2.1.2.1 x.1.2.1.2.2.1 x.1.2.1.2.2.2.1 x.1.2.1.2.2.2.2.1 x.1.2.1.2.2.2.2.2.1 x.1.2.2.1.1 x.1.2.2.1.2.1 x.1.2.2.1.2.2.1 x.1.2.2.1.2.2.2.1 (fun y0=>C.1 ((y0,()),(())))
def Aw0(Ad8:Amv)(N:Nat):Go.AX.Aad:=Aaz [true,true,true] [] false 3 0 Bdg [Ayn] (fun R x C=>Ad8 N x.1.1.1 x.1.1.2.1 x.1.1.2.2.1 x.1.2.1.1 x.1.2.1.2.1 x.1.2.1.2.2.1 x.1.2.1.2.2.2.1 x.1.2.1.2.2.2.2.1 x.1.2.1.2.2.2.2.2.1 x.1.2.2.1.1 x.1.2.2.1.2.1 x.1.2.2.1.2.2.1 x.1.2.2.1.2.2.2.1 (fun y0=>C.1 ((y0,()),(()))))
def Buo(N:Nat):Go.AX.Aad:=Aw0 @Ad8 N
def C89(N:Nat):List (Nat×Aa6):=[(42,Aab Aln (Bjk N))]
def Cjn(N:Nat):List (Nat×Go.AX.Aad):=[(277,Bde N),(276,Bqj N)]
def Ah7:Aac:=⟨[wq5,(5,.one (.ptr 1000)),(35,.one (.val z4)),(36,.one wq0),(37,.one wq0)],[Cbk,(1000,.row 218 (.pair .str z2))]⟩
def Aw1:Aac:=⟨B01,[]⟩
def Aw2:Aac:=⟨[wq5],C2j⟩
def Bqk:Afc:=.cons .ret Aw1 (.cons (.exit 0) Aw2 (.nil))
abbrev Ba3(R:Type):=d3->Int->Int->(List UInt8)->d4->d3->d2->Int->Int->(List ((List UInt8×(Int×(Int×Int)))))->(Bool->Option R)->((List UInt8)->d4->d3->d2->Int->Int->Option R)->Option R
abbrev Bql(R:Type):=d3->Int->Int->(List UInt8)->d4->d3->d2->Int->Int->(List ((List UInt8×(Int×(Int×Int)))))->Option R
abbrev Apz:={R:Type}→Nat→Nat→Ba3 R
def Ba4(Ad8:Amv){R:Type}(N:Nat)(rc:Bql R):Ba3 R:=fun d m b e f g h i j c l n=>if ((decide (b<m))=true) then (if (0≤b∧b<len d) then (let a:=(d.getD b.toNat (0,(0,0))).1;if ((decide (a<1))=true) then (l false) else if ((decide (a≥31))=true) then (l false) else if ((0≤a)∧(a<31)) then (if (a<(len c)) then (Ad8 N a ((d.getD b.toNat (0,(0,0))).2.1) ((d.getD b.toNat (0,(0,0))).2.2) e f g h i j ((c.getD a.toNat (([]:List UInt8),(0,(0,0)))).1) ((c.getD a.toNat (([]:List UInt8),(0,(0,0)))).2.1) ((c.getD a.toNat (([]:List UInt8),(0,(0,0)))).2.2.1) ((c.getD a.toNat (([]:List UInt8),(0,(0,0)))).2.2.2) fun o=>if ((!o)=true) then (l false) else rc d m (wi (b+1)) e f g h i j c) else none) else none) else none) else n e f g h i j
def Ade{R:Type}(N:Nat):Nat→Ba3 R
 |0=>fun _ _ _ _ _ _ _ _ _ _ _ _=>none
 |k+1=>fun a b c d e f g h i j l m=>Ba4 @Ad8 N (fun a b c d e f g h i j=>Ade N k a b c d e f g h i j l m) a b c d e f g h i j l m
def Auk(Ade:Apz)(N k:Nat):Aa7 Ah7:=fun R x K=>Ade N k x.1.2.2.1 x.1.2.2.2.1 x.1.2.2.2.2.1 x.2.1.1 x.2.1.2.1 x.2.1.2.2.1 x.2.1.2.2.2.1 x.2.1.2.2.2.2.1 x.2.1.2.2.2.2.2.1 x.2.2.1 (fun y0=>K .ret (Aaf Aw1 ((y0,()),(())))) (fun y0 y1 y2 y3 y4 y5=>K (.exit 0) (Aaf Aw2 (((),()),((y0,y1,y2,y3,y4,y5,()),()))))
def Ba5(N k:Nat):Aa7 Ah7:=Auk @Ade N k
def Ap0:Code:=Tryz.f199.body.getD .skip
def Aj6:Aac:=⟨[wq5,(2,.one (.slf 33)),(3,.one (.slf 34)),Cmd,B02,(18,.one (.val z4)),(19,.one wq0),(20,.one wq0)],[Cbk,Cmb,(34,.row 3 (.int .i64))]⟩
def Aw3:Aac:=⟨[(2,.one (.slf 32)),(3,.one (.slf 33)),Cma],C2c⟩
def Aw4:Aac:=⟨[wq5,(2,.one (.slf 33)),(3,.one (.slf 34)),Cmd,B02],[Cbk,Cmb,(34,.row 3 (.int .i64))]⟩
def Bqm:Afc:=.cons .ret Aw3 (.cons (.exit 0) Aw4 (.nil))
abbrev Ba6(R:Type):=Int->Int->d3->Int->Int->(List UInt8)->d4->d3->d2->Int->Int->d0->d0->(Bool->d0->d0->Option R)->(Int->Int->(List UInt8)->d4->d3->d2->Int->Int->d0->d0->Option R)->Option R
abbrev Bqn(R:Type):=Int->Int->d3->Int->Int->(List UInt8)->d4->d3->d2->Int->Int->d0->d0->Option R
abbrev A0u:={R:Type}→Nat→Nat→Ba6 R
def Ba7{R:Type}(N:Nat)(rc:Bqn R):Ba6 R:=fun d f e h b i j l m n o g c p s=>if ((decide (b<h))=true) then (if (0≤b∧b<len e) then (let q:=(e.getD b.toNat (0,(0,0))).1;let a:=(e.getD b.toNat (0,(0,0))).2.1;if ((q==24)=true) then (let r:=(wi (d+1));if ((a != r)=true) then (p false ([]:List Int) ([]:List Int)) else rc r f e h (wi (b+1)) i j l m n o g c) else if ((q==19)=true) then (if (0≤a∧a<len c) then (if (((c.getD a.toNat 0) != 0)=true) then (p false ([]:List Int) ([]:List Int)) else if ((d==0)=true) then (p false ([]:List Int) ([]:List Int)) else if (0≤a∧a<len g) then (if (0≤a∧a<len c) then (rc d (if (a > f) then a else f) e h (wi (b+1)) i j l m n o (g.set a.toNat b) (c.set a.toNat d)) else none) else none) else none) else rc d f e h (wi (b+1)) i j l m n o g c) else none) else s d f i j l m n o g c
def Afq{R:Type}(N:Nat):Nat→Ba6 R
 |0=>fun _ _ _ _ _ _ _ _ _ _ _ _ _ _ _=>none
 |k+1=>fun a b c d e f g h i j l m n o p=>Ba7 N (fun a b c d e f g h i j l m n=>Afq N k a b c d e f g h i j l m n o p) a b c d e f g h i j l m n o p
def Ba8(Afq:A0u)(N k:Nat):Aa7 Aj6:=fun R x K=>Afq N k x.1.2.2.2.1 x.1.2.2.2.2.1 x.1.2.2.2.2.2.1 x.1.2.2.2.2.2.2.1 x.1.2.2.2.2.2.2.2.1 x.2.1.1 x.2.1.2.1 x.2.1.2.2.1 x.2.1.2.2.2.1 x.2.1.2.2.2.2.1 x.2.1.2.2.2.2.2.1 x.2.2.1 x.2.2.2.1 (fun y0 y1 y2=>K .ret (Aaf Aw3 (((),(),y0,()),(y1,y2,())))) (fun y0 y1 y2 y3 y4 y5 y6 y7 y8 y9=>K (.exit 0) (Aaf Aw4 (((),(),(),y0,y1,()),((y2,y3,y4,y5,y6,y7,()),y8,y9,()))))
def Ba9(N k:Nat):Aa7 Aj6:=Ba8 @Afq N k
def Bhb:Aac:=⟨Cbj,[]⟩
def A0v:Aac:=⟨[wq8,(1,.one (.slf 33)),Dcr],C2c⟩
abbrev Cmj(R:Type):=(List UInt8)->d4->d3->d2->Int->Int->(Bool->d0->d0->Option R)->Option R
abbrev Ajl:={R:Type}→Nat→Cmj R
def Bhc(Afq:A0u):Ajl:=fun {R} N h i b j l d c=>let a:=(wi (d+1));if ((0≤a)∧((a≤a)∧((a*8)≤70368744177664))) then (let e:=(List.replicate (Int.toNat a) 0);if ((0≤a)∧((a≤a)∧((a*8)≤70368744177664))) then (Afq N N 0 0 b (len b) 0 h i b j l d e e (fun m n o=>c m n o) fun p q t u v w r s f g=>if ((p==r)=true) then (c (q==s) f g) else c false f g) else none) else none
def Ab6:Ajl:=@Bhc @Afq
def Dad(N:Nat):Aas Bhb [A0v]:=fun R x C=>Ab6 N x.1.1.1 x.1.1.2.1 x.1.1.2.2.1 x.1.1.2.2.2.1 x.1.1.2.2.2.2.1 x.1.1.2.2.2.2.2.1 (fun y0 y1 y2=>C.1 (((),(),y0,()),(y1,y2,())))
def Ap1(Ab6:Ajl)(N:Nat):Go.AX.Aad:=Aaz [true] [] false 1 0 Bhb [A0v] (fun R x C=>Ab6 N x.1.1.1 x.1.1.2.1 x.1.1.2.2.1 x.1.1.2.2.2.1 x.1.1.2.2.2.2.1 x.1.1.2.2.2.2.2.1 (fun y0 y1 y2=>C.1 (((),(),y0,()),(y1,y2,()))))
def Bhd(N:Nat):Go.AX.Aad:=Ap1 @Ab6 N
def Dae(N:Nat):List (Nat×Aa6):=[(9,Aab Aj6 (Ba9 N N))]
def Cmk(N:Nat):List (Nat×Go.AX.Aad):=[]
def Ahh:Code:=Tryz.f200.body.getD .skip
def Ah8:Aac:=⟨[wq9,A8d,(28,.one wq0),(29,.one wq0)],[]⟩
def Aw5:Aac:=⟨B01,[]⟩
def Aw6:Aac:=⟨C78,[]⟩
def Bqo:Afc:=.cons .ret Aw5 (.cons (.exit 3) Aw6 (.nil))
abbrev Bba(R:Type):=d3->Int->Int->Int->(Bool->Option R)->(d3->Int->Option R)->Option R
abbrev Bqp(R:Type):=d3->Int->Int->Int->Option R
abbrev Ap2:={R:Type}→Nat→Nat→Bba R
def A0w{R:Type}(N:Nat)(rc:Bqp R):Bba R:=fun a c e d f g=>if ((decide (d<e))=true) then (let b:=(wi ((wi (c+1))+d));if ((decide (b≥(len a)))=true) then (f false) else if (0≤b∧b<len a) then (if (((a.getD b.toNat (0,(0,0))).1 != 30)=true) then (f false) else rc a c e (wi (d+1))) else none) else g a c
def Ac6{R:Type}(N:Nat):Nat→Bba R
 |0=>fun _ _ _ _ _ _=>none
 |k+1=>fun a b c d e f=>A0w N (fun a b c d=>Ac6 N k a b c d e f) a b c d e f
def Aul(Ac6:Ap2)(N k:Nat):Aa7 Ah8:=fun R x K=>Ac6 N k x.1.1 x.1.2.1 x.1.2.2.1 x.1.2.2.2.1 (fun y0=>K .ret (Aaf Aw5 ((y0,()),(())))) (fun y0 y1=>K (.exit 3) (Aaf Aw6 ((y0,y1,()),(()))))
def Bbb(N k:Nat):Aa7 Ah8:=Aul @Ac6 N k
def A4z:Code:=Tryz.f206.body.getD .skip
def Aoz:Aac:=⟨[wq9,Aim,Bqb,(10,.one (.val .bool))],[]⟩
def A8e:Aac:=⟨[Cma],[]⟩
def A8f:Aac:=⟨[],[]⟩
def Bup:Afc:=.cons .ret A8e (.cons .normal A8f (.nil))
abbrev Cjo(R:Type):=d3->Int->Int->Bool->(Bool->Option R)->(Option R)->Option R
abbrev Aw7:={R:Type}→Nat→Cjo R
def Afu:Aw7:=fun {R} N a b e f c g=>if (f=true) then (c true) else if ((e==29)=true) then (if (0≤b∧b<len a) then (c ((a.getD b.toNat (0,(0,0))).2.2==0)) else none) else if ((e==30)=true) then (let d:=(wi (b+1));if ((d==(len a))=true) then (c true) else if (0≤d∧d<len a) then (c ((a.getD d.toNat (0,(0,0))).1 != 30)) else none) else g
def Bdi(Afu:Aw7)(N:Nat):Aa7 Aoz:=fun R x K=>Afu N x.1.1 x.1.2.1 x.1.2.2.1 x.1.2.2.2.1 (fun y0=>K .ret (Aaf A8e ((y0,()),(())))) (K .normal (Aaf A8f ((()),(()))))
def Buq(N:Nat):Aa7 Aoz:=Bdi @Afu N
def Bqq:Aac:=⟨C79,[]⟩
def A7g:Aac:=⟨Amm,[]⟩
abbrev Cvi(R:Type):=d3->Int->(Bool->Option R)->Option R
abbrev Alo:={R:Type}→Nat→Cvi R
def Bqr(Afu:Aw7):Alo:=fun {R} N d c b=>if (0≤c∧c<len d) then (let a:=(d.getD c.toNat (0,(0,0))).1;if ((a==20)=true) then (Afu N d c a (a==20) (fun e=>b e) (b false)) else if ((a==25)=true) then (Afu N d c a (a==25) (fun f=>b f) (b false)) else if ((a==26)=true) then (Afu N d c a (a==26) (fun g=>b g) (b false)) else Afu N d c a (a==27) (fun h=>b h) (b false)) else none
def Ab5:Alo:=@Bqr @Afu
def Dcz(N:Nat):Aas Bqq [A7g]:=fun R x C=>Ab5 N x.1.1 x.1.2.1 (fun y0=>C.1 ((y0,()),(())))
def Aum(Ab5:Alo)(N:Nat):Go.AX.Aad:=Aaz [true,true] [] false 2 0 Bqq [A7g] (fun R x C=>Ab5 N x.1.1 x.1.2.1 (fun y0=>C.1 ((y0,()),(()))))
def Bqs(N:Nat):Go.AX.Aad:=Aum @Ab5 N
def Dc0(N:Nat):List (Nat×Aa6):=[(12,Aab Aoz (Buq N))]
def Cvj(N:Nat):List (Nat×Go.AX.Aad):=[]
def Aj7:Aac:=⟨[wq9,A8d,Cma],[]⟩
def A40:Aac:=⟨B01,[]⟩
def A41:Aac:=⟨C78,[]⟩
def Bqt:Afc:=.cons .ret A40 (.cons .normal A41 (.nil))
abbrev Cf2(R:Type):=d3->Int->Bool->(Bool->Option R)->(d3->Int->Option R)->Option R
abbrev Alp:={R:Type}→Nat→Cf2 R
def Bbc(Ab5:Alo):Alp:=fun {R} N a b f e c=>if (f=true) then (Ab5 N a b fun g=>if ((!g)=true) then (e false) else c a b) else let d:=(wi (b+1));if (0≤d∧d<len a) then (if (((a.getD d.toNat (0,(0,0))).1==24)=true) then (Ab5 N a b fun h=>if ((!h)=true) then (e false) else c a b) else c a b) else none
def Abw:Alp:=@Bbc @Ab5
def Aun(Abw:Alp)(N:Nat):Aa7 Aj7:=fun R x K=>Abw N x.1.1 x.1.2.1 x.1.2.2.1 (fun y0=>K .ret (Aaf A40 ((y0,()),(())))) (fun y0 y1=>K .normal (Aaf A41 ((y0,y1,()),(()))))
def Bqu(N:Nat):Aa7 Aj7:=Aun @Abw N
def Aiu:Aac:=⟨C78,[]⟩
def Ayo:Aac:=⟨B01,[]⟩
def Ayp:Aac:=⟨[wq9],[]⟩
def Bur:Afc:=.cons .ret Ayo (.cons (.exit 0) Ayp (.nil))
abbrev Bdj(R:Type):=d3->Int->(Bool->Option R)->(d3->Option R)->Option R
abbrev Bus(R:Type):=d3->Int->Option R
abbrev Arf:={R:Type}→Nat→Nat→Bdj R
def Bdk(Ac6:Ap2)(Abw:Alp){R:Type}(N:Nat)(rc:Bus R):Bdj R:=fun a b d l=>if ((decide (b<(len a)))=true) then (let c:=(wi (b+1));if (0≤b∧b<len a) then (let h:=(a.getD b.toNat (0,(0,0))).1;if ((h==29)=true) then (if (0≤b∧b<len a) then (Ac6 N N a b ((a.getD b.toNat (0,(0,0))).2.2) 0 (fun m=>d m) fun e g=>if (0≤g∧g<len e) then (let i:=(wi (g+(e.getD g.toNat (0,(0,0))).2.2));let f:=(wi (i+1));if ((!(f==(len e)))=true) then (if (0≤f∧f<len e) then (if (((e.getD f.toNat (0,(0,0))).1==30)=true) then (d false) else Abw N e i (f==(len e)) (fun n=>d n) fun o p=>rc o (wi (p+1))) else none) else Abw N e i (f==(len e)) (fun q=>d q) fun r s=>rc r (wi (s+1))) else none) else none) else if ((h==30)=true) then (d false) else if ((h==19)=true) then (if ((c==(len a))=true) then (d false) else if (0≤c∧c<len a) then (let j:=(a.getD c.toNat (0,(0,0))).1;if ((j != 18)=true) then (if (0≤c∧c<len a) then (if ((j != 28)=true) then (if (0≤c∧c<len a) then (if ((j != 19)=true) then (d false) else Abw N a b (c==(len a)) (fun t=>d t) fun u v=>rc u (wi (v+1))) else none) else Abw N a b (c==(len a)) (fun w=>d w) fun x y=>rc x (wi (y+1))) else none) else Abw N a b (c==(len a)) (fun z=>d z) fun A B=>rc A (wi (B+1))) else none) else Abw N a b (c==(len a)) (fun C=>d C) fun D E=>rc D (wi (E+1))) else none) else l a
def Aco{R:Type}(N:Nat):Nat→Bdj R
 |0=>fun _ _ _ _=>none
 |k+1=>fun a b c d=>Bdk @Ac6 @Abw N (fun a b=>Aco N k a b c d) a b c d
def Aw8(Aco:Arf)(N k:Nat):Aa7 Aiu:=fun R x K=>Aco N k x.1.1 x.1.2.1 (fun y0=>K .ret (Aaf Ayo ((y0,()),(())))) (fun y0=>K (.exit 0) (Aaf Ayp ((y0,()),(()))))
def Bdl(N k:Nat):Aa7 Aiu:=Aw8 @Aco N k
def Blm:Aac:=⟨[wq9],[]⟩
def A3r:Aac:=⟨Amm,[]⟩
abbrev Cqs(R:Type):=d3->(Bool->Option R)->Option R
abbrev Apd:={R:Type}→Nat→Cqs R
def Bln(Aco:Arf):Apd:=fun {R} N c a=>Aco N N c 0 (fun d=>a d) fun b=>if (((len b)==0)=true) then (a true) else if (((0 :Int)≤(0 :Int))∧(0<(len b))) then (a ((List.getD b (0:Nat) (0,(0,0))).1==24)) else none
def Afe:Apd:=@Bln @Aco
def Dbn(N:Nat):Aas Blm [A3r]:=fun R x C=>Afe N x.1.1 (fun y0=>C.1 ((y0,()),(())))
def A10(Afe:Apd)(N:Nat):Go.AX.Aad:=Aaz [true] [] false 1 0 Blm [A3r] (fun R x C=>Afe N x.1.1 (fun y0=>C.1 ((y0,()),(()))))
def B2u(N:Nat):Go.AX.Aad:=A10 @Afe N
def Dbo(N:Nat):List (Nat×Aa6):=[(17,Aab Ah8 (Bbb N N)),(44,Aab Aj7 (Bqu N)),(5,Aab Aiu (Bdl N N))]
def Cqt(N:Nat):List (Nat×Go.AX.Aad):=[(206,Bqs N)]
def Aji:Code:=Tryz.f201.body.getD .skip
def Ayi:Code:=Tryz.f278.body.getD .skip
def Ahi:Code:=Tryz.f302.body.getD .skip
def But:Code:=Tryz.f279.body.getD .skip
def Bdm:Aac:=⟨Afp,[]⟩
def Ayq:Aac:=⟨Amm,[]⟩
abbrev Cjp(R:Type):=Int->(Bool->Option R)->Option R
abbrev Arg:={R:Type}→Nat→Cjp R
def Bdn(Afy:Aqy):Arg:=fun {R} N a b=>Afy N a fun c=>b (!c)
def Agp:Arg:=@Bdn @Afy
def C9a(N:Nat):Aas Bdm [Ayq]:=fun R x C=>Agp N x.1.1 (fun y0=>C.1 ((y0,()),(())))
def Bdo(Agp:Arg)(N:Nat):Go.AX.Aad:=Aaz [true] [] false 1 0 Bdm [Ayq] (fun R x C=>Agp N x.1.1 (fun y0=>C.1 ((y0,()),(()))))
def Buu(N:Nat):Go.AX.Aad:=Bdo @Agp N
def C9b(N:Nat):List (Nat×Aa6):=[]
def Cjq(N:Nat):List (Nat×Go.AX.Aad):=[(276,Bqj N)]
def Aev:Aac:=⟨[C77,(1,.one (.fn 279)),Bc6,Cvb],[]⟩
def Alc:Aac:=⟨[Cmc],[]⟩
def Ald:Aac:=⟨[],[]⟩
def Azi:Afc:=.cons .ret Alc (.cons (.exit 0) Ald (.nil))
abbrev Ap3(R:Type):=d0->Int->Int->(Int->Option R)->(Option R)->Option R
abbrev Azj(R:Type):=d0->Int->Int->Option R
abbrev Al7:={R:Type}→Nat→Nat→Ap3 R
def Al8(Agp:Arg){R:Type}(N:Nat)(rc:Azj R):Ap3 R:=fun b c a d e=>if ((decide (a<c))=true) then (if (0≤a∧a<len b) then (Agp N (b.getD a.toNat 0) fun f=>if (f=true) then (d a) else rc b c (wi (a+1))) else none) else e
def Abj{R:Type}(N:Nat):Nat→Ap3 R
 |0=>fun _ _ _ _ _=>none
 |k+1=>fun a b c d e=>Al8 @Agp N (fun a b c=>Abj N k a b c d e) a b c d e
def Ap4(Abj:Al7)(N k:Nat):Aa7 Aev:=fun R x K=>Abj N k x.1.1 x.1.2.2.1 x.1.2.2.2.1 (fun y0=>K .ret (Aaf Alc ((y0,()),(())))) (K (.exit 0) (Aaf Ald ((()),(()))))
def Ap5(N k:Nat):Aa7 Aev:=Ap4 @Abj N k
def Ar4:Aac:=⟨[C77,(1,.one (.fn 279))],[]⟩
def Al9:Aac:=⟨Afp,[]⟩
abbrev Blo(R:Type):=d0->(Int->Option R)->Option R
abbrev Akf:={R:Type}→Nat→Blo R
def Ar5(Abj:Al7):Akf:=fun {R} N a b=>Abj N N a (len a) 0 (fun c=>b c) (b (-1))
def Ads:Akf:=@Ar5 @Abj
def Cqu(N:Nat):Aas Ar4 [Al9]:=fun R x C=>Ads N x.1.1 (fun y0=>C.1 ((y0,()),(())))
def A11(Ads:Akf)(N:Nat):Go.AX.Aad:=Aaz [true,true] [] false 2 0 Ar4 [Al9] (fun R x C=>Ads N x.1.1 (fun y0=>C.1 ((y0,()),(()))))
def A12(N:Nat):Go.AX.Aad:=A11 @Ads N
def Cqv(N:Nat):List (Nat×Aa6):=[(5,Aab Aev (Ap5 N N))]
def Blp(N:Nat):List (Nat×Go.AX.Aad):=[(279,Buu N)]
def Aph:Aac:=⟨[C77,(1,.one (.fn 279))],[]⟩
def Akl:Aac:=⟨Amm,[]⟩
abbrev Bfi(R:Type):=d0->(Bool->Option R)->Option R
abbrev Aga:={R:Type}→Nat→Bfi R
def Api(Ads:Akf):Aga:=fun {R} N a b=>Ads N a fun c=>b (decide (c≥0))
def Abc:Aga:=@Api @Ads
def Clc(N:Nat):Aas Aph [Akl]:=fun R x C=>Abc N x.1.1 (fun y0=>C.1 ((y0,()),(())))
def Alj(Abc:Aga)(N:Nat):Go.AX.Aad:=Aaz [true,true] [] false 2 0 Aph [Akl] (fun R x C=>Abc N x.1.1 (fun y0=>C.1 ((y0,()),(()))))
def Ayj(N:Nat):Go.AX.Aad:=Alj @Abc N
def Cld(N:Nat):List (Nat×Aa6):=[]
def Bfj(N:Nat):List (Nat×Go.AX.Aad):=[(302,A12 N)]
def Ajx:Aac:=⟨[wq5,(11,.one (.val z3)),(12,.one wq0),(13,.one wq0)],C2j⟩
def Ayr:Aac:=⟨B01,[]⟩
def Ays:Aac:=⟨[wq5],C2j⟩
def Buv:Afc:=.cons .ret Ayr (.cons (.exit 0) Ays (.nil))
abbrev Bdp(R:Type):=d4->Int->Int->(List UInt8)->d4->d3->d2->Int->Int->(Bool->Option R)->((List UInt8)->d4->d3->d2->Int->Int->Option R)->Option R
abbrev Buw(R:Type):=d4->Int->Int->(List UInt8)->d4->d3->d2->Int->Int->Option R
abbrev Aw9:={R:Type}→Nat→Nat→Bdp R
def A3s(Adf:Al3)(Abc:Aga){R:Type}(N:Nat)(rc:Buw R):Bdp R:=fun b d a e f g h i j c n=>if ((decide (a<d))=true) then (if (0≤a∧a<len b) then (let m:=(b.getD a.toNat (([]:List UInt8),(false,([]:List Int)))).1;let l:=(b.getD a.toNat (([]:List UInt8),(false,([]:List Int)))).2.2;if ((b.getD a.toNat (([]:List UInt8),(false,([]:List Int)))).2.1=true) then (Adf N m fun q o=>if ((o != 0)=true) then (c false) else if ((decide ((len l) > 0))=true) then (c false) else rc b d (wi (a+1)) e f g h i j) else if ((!(m==([]:List UInt8)))=true) then (c false) else if (((len l)==0)=true) then (c false) else Abc N l fun p=>if (p=true) then (c false) else rc b d (wi (a+1)) e f g h i j) else none) else n e f g h i j
def Aeq{R:Type}(N:Nat):Nat→Bdp R
 |0=>fun _ _ _ _ _ _ _ _ _ _ _=>none
 |k+1=>fun a b c d e f g h i j l=>A3s @Adf @Abc N (fun a b c d e f g h i=>Aeq N k a b c d e f g h i j l) a b c d e f g h i j l
def A3t(Aeq:Aw9)(N k:Nat):Aa7 Ajx:=fun R x K=>Aeq N k x.1.2.1 x.1.2.2.1 x.1.2.2.2.1 x.2.1.1 x.2.1.2.1 x.2.1.2.2.1 x.2.1.2.2.2.1 x.2.1.2.2.2.2.1 x.2.1.2.2.2.2.2.1 (fun y0=>K .ret (Aaf Ayr ((y0,()),(())))) (fun y0 y1 y2 y3 y4 y5=>K (.exit 0) (Aaf Ays (((),()),((y0,y1,y2,y3,y4,y5,()),()))))
def Bdq(N k:Nat):Aa7 Ajx:=A3t @Aeq N k
def Aix:Aac:=⟨[wq5,(7,.one (.mp 33)),(50,.one (.val z1)),(51,.one wq0),(52,.one wq0)],[Cbk,(33,.amap 147 (.int .i64) .bool)]⟩
def Axa:Aac:=⟨B01,[]⟩
def Axb:Aac:=⟨[],[]⟩
def Bqv:Afc:=.cons .ret Axa (.cons (.exit 2) Axb (.nil))
abbrev Bbd(R:Type):=d2->Int->Int->(List UInt8)->d4->d3->d2->Int->Int->(List (Int×Bool))->(Bool->Option R)->(Option R)->Option R
abbrev Bqw(R:Type):=d2->Int->Int->(List UInt8)->d4->d3->d2->Int->Int->(List (Int×Bool))->Option R
abbrev Auo:={R:Type}→Nat→Nat→Bbd R
def A0x(Abg:Ajf){R:Type}(N:Nat)(rc:Bqw R):Bbd R:=fun b e a h i j l f m g c n=>if ((decide (a<e))=true) then (if (0≤a∧a<len b) then (let d:=(b.getD a.toNat (0,0)).1;Abg N d 1 199 fun o=>if ((!o)=true) then (c false) else if ((Option.getD (A8c (kt:=(.int .i64)) (et:=.bool) d g) false)=true) then (c false) else Abg N ((b.getD a.toNat (0,0)).2) 1 f fun p=>if ((!p)=true) then (c false) else rc b e (wi (a+1)) h i j l f m (Bas (kt:=(.int .i64)) (et:=.bool) d true g)) else none) else n
def Ado{R:Type}(N:Nat):Nat→Bbd R
 |0=>fun _ _ _ _ _ _ _ _ _ _ _ _=>none
 |k+1=>fun a b c d e f g h i j l m=>A0x @Abg N (fun a b c d e f g h i j=>Ado N k a b c d e f g h i j l m) a b c d e f g h i j l m
def A0y(Ado:Auo)(N k:Nat):Aa7 Aix:=fun R x K=>Ado N k x.1.2.2.1 x.1.2.2.2.1 x.1.2.2.2.2.1 x.2.1.1 x.2.1.2.1 x.2.1.2.2.1 x.2.1.2.2.2.1 x.2.1.2.2.2.2.1 x.2.1.2.2.2.2.2.1 x.2.2.1 (fun y0=>K .ret (Aaf Axa ((y0,()),(())))) (K (.exit 2) (Aaf Axb ((()),(()))))
def Bbe(N k:Nat):Aa7 Aix:=A0y @Ado N k
def Blq:Aac:=⟨Cbj,[]⟩
def A3u:Aac:=⟨Amm,[]⟩
abbrev Cqw(R:Type):=(List UInt8)->d4->d3->d2->Int->Int->(Bool->Option R)->Option R
abbrev Ape:={R:Type}→Nat→Cqw R
def Blr(Aeq:Aw9)(Ado:Auo):Ape:=fun {R} N d a e f g h b=>Aeq N N a (len a) 0 d a e f g h (fun i=>b i) fun j l m c n o=>Ado N N c (len c) 0 j l m c n o ([]:List (Int×Bool)) (fun p=>b p) (b true)
def Aff:Ape:=@Blr @Aeq @Ado
def Dbp(N:Nat):Aas Blq [A3u]:=fun R x C=>Aff N x.1.1.1 x.1.1.2.1 x.1.1.2.2.1 x.1.1.2.2.2.1 x.1.1.2.2.2.2.1 x.1.1.2.2.2.2.2.1 (fun y0=>C.1 ((y0,()),(())))
def A13(Aff:Ape)(N:Nat):Go.AX.Aad:=Aaz [true] [] false 1 0 Blq [A3u] (fun R x C=>Aff N x.1.1.1 x.1.1.2.1 x.1.1.2.2.1 x.1.1.2.2.2.1 x.1.1.2.2.2.2.1 x.1.1.2.2.2.2.2.1 (fun y0=>C.1 ((y0,()),(()))))
def B2v(N:Nat):Go.AX.Aad:=A13 @Aff N
def Dbq(N:Nat):List (Nat×Aa6):=[(5,Aab Ajx (Bdq N N)),(27,Aab Aix (Bbe N N))]
def Cqx(N:Nat):List (Nat×Go.AX.Aad):=[(196,Bv7 N),(278,Ayj N),(277,Bde N)]
def A14:Code:=Tryz.f202.body.getD .skip
def Anq:Aac:=⟨[wq5,Cmc,(5,.one (.val .bool))],[C2g]⟩
def A42:Aac:=⟨Cvc,[]⟩
def A43:Aac:=⟨[],[]⟩
def Bqx:Afc:=.cons .ret A42 (.cons .normal A43 (.nil))
abbrev Cf3(R:Type):=Int->Bool->Int->Int->Int->(Int->Option R)->(Option R)->Option R
abbrev Aup:={R:Type}→Nat→Cf3 R
def Aew:Aup:=fun {R} N b c g d e a f=>if (c=true) then (a d) else if ((b==30)=true) then (a e) else f
def Bbf(Aew:Aup)(N:Nat):Aa7 Anq:=fun R x K=>Aew N x.1.2.1 x.1.2.2.1 x.2.1.1 x.2.1.2.1 x.2.1.2.2.1 (fun y0=>K .ret (Aaf A42 ((y0,()),(())))) (K .normal (Aaf A43 ((()),(()))))
def Bqy(N:Nat):Aa7 Anq:=Bbf @Aew N
def Bls:Aac:=⟨[C2f],[]⟩
def A3v:Aac:=⟨Afp,[]⟩
abbrev Cqy(R:Type):=Int->Int->Int->(Int->Option R)->Option R
abbrev Akg:={R:Type}→Nat→Cqy R
def Blt(Aew:Aup):Akg:=fun {R} N a c d b=>if ((a==20)=true) then (Aew N a (a==20) a c d (fun e=>b e) (b 0)) else if ((a==21)=true) then (Aew N a (a==21) a c d (fun f=>b f) (b 0)) else if ((a==22)=true) then (Aew N a (a==22) a c d (fun g=>b g) (b 0)) else if ((a==27)=true) then (Aew N a (a==27) a c d (fun h=>b h) (b 0)) else Aew N a (a==29) a c d (fun i=>b i) (b 0)
def Aca:Akg:=@Blt @Aew
def Dbr(N:Nat):Aas Bls [A3v]:=fun R x C=>Aca N x.1.1.1 x.1.1.2.1 x.1.1.2.2.1 (fun y0=>C.1 ((y0,()),(())))
def Ar6(Aca:Akg)(N:Nat):Go.AX.Aad:=Aaz [true] [] false 1 0 Bls [A3v] (fun R x C=>Aca N x.1.1.1 x.1.1.2.1 x.1.1.2.2.1 (fun y0=>C.1 ((y0,()),(()))))
def Blu(N:Nat):Go.AX.Aad:=Ar6 @Aca N
def Dbs(N:Nat):List (Nat×Aa6):=[(14,Aab Anq (Bqy N))]
def Cqz(N:Nat):List (Nat×Go.AX.Aad):=[]
def Aj8:Aac:=⟨[C14,(9,.one (.slf 33)),C2b,(13,.one (.ptr 34)),C7y,C74,C75],[C72,Cmb,(34,.cells 141 C2e)]⟩
def A44:Aac:=⟨B01,[]⟩
def A45:Aac:=⟨[C14,(9,.one (.slf 33)),C2b,C7y,C74,C75],C2c⟩
def Bqz:Afc:=.cons .ret A44 (.cons .normal A45 (.nil))
abbrev Cf4(R:Type):=Int->d3->Int->Int->d0->d0->Int->Int->Int->(Bool->Option R)->(Int->d3->Int->Int->d0->d0->Option R)->Option R
abbrev Alq:={R:Type}→Nat→Cf4 R
def Bbg(Aca:Akg):Alq:=fun {R} N d e f g b c j l m h i=>Aca N j l m fun a=>if ((decide (a > 0))=true) then (if (0≤a∧a<len c) then (if (((c.getD a.toNat 0) != d)=true) then (h false) else if (0≤a∧a<len b) then (if (((b.getD a.toNat 0)==0)=true) then (h false) else i d e f g b c) else none) else none) else i d e f g b c
def Adp:Alq:=@Bbg @Aca
def Auq(Adp:Alq)(N:Nat):Aa7 Aj8:=fun R x K=>Adp N x.1.2.2.1 x.1.2.2.2.2.1 x.1.2.2.2.2.2.1 x.1.2.2.2.2.2.2.1 x.2.1 x.2.2.1 x.2.2.2.1.1 x.2.2.2.1.2.1 x.2.2.2.1.2.2.1 (fun y0=>K .ret (Aaf A44 ((y0,()),(())))) (fun y0 y1 y2 y3 y4 y5=>K .normal (Aaf A45 (((),(),y0,y1,y2,y3,()),(y4,y5,()))))
def Bq0(N:Nat):Aa7 Aj8:=Auq @Adp N
def Ah9:Aac:=⟨[C14,(9,.one (.slf 33)),C2b,C7y,C74,C75],C2c⟩
def Axc:Aac:=⟨B01,[]⟩
def Axd:Aac:=⟨[],[]⟩
def Bq1:Afc:=.cons .ret Axc (.cons (.exit 2) Axd (.nil))
abbrev Bbh(R:Type):=Int->d3->Int->Int->d0->d0->(Bool->Option R)->(Option R)->Option R
abbrev Bq2(R:Type):=Int->d3->Int->Int->d0->d0->Option R
abbrev Ap6:={R:Type}→Nat→Nat→Bbh R
def Bbi(Adp:Alq){R:Type}(N:Nat)(rc:Bq2 R):Bbh R:=fun j b c a f g h l=>if ((decide (a<c))=true) then (if (0≤a∧a<len b) then (let d:=(b.getD a.toNat (0,(0,0))).1;let e:=(b.getD a.toNat (0,(0,0))).2.1;let i:=(b.getD a.toNat (0,(0,0))).2.2;if ((d==24)=true) then (Adp N e b c a f g d e i (fun m=>h m) fun n o p q r s=>rc n o p (wi (q+1)) r s) else Adp N j b c a f g d e i (fun t=>h t) fun u v w x y z=>rc u v w (wi (x+1)) y z) else none) else l
def Ac7{R:Type}(N:Nat):Nat→Bbh R
 |0=>fun _ _ _ _ _ _ _ _=>none
 |k+1=>fun a b c d e f g h=>Bbi @Adp N (fun a b c d e f=>Ac7 N k a b c d e f g h) a b c d e f g h
def Aur(Ac7:Ap6)(N k:Nat):Aa7 Ah9:=fun R x K=>Ac7 N k x.1.2.2.1 x.1.2.2.2.1 x.1.2.2.2.2.1 x.1.2.2.2.2.2.1 x.2.1 x.2.2.1 (fun y0=>K .ret (Aaf Axc ((y0,()),(())))) (K (.exit 2) (Aaf Axd ((()),(()))))
def Bbj(N k:Nat):Aa7 Ah9:=Aur @Ac7 N k
def Blv:Aac:=⟨Cbj,[]⟩
def A3w:Aac:=⟨Amm,[]⟩
abbrev Cq0(R:Type):=(List UInt8)->d4->d3->d2->Int->Int->(Bool->Option R)->Option R
abbrev A15:={R:Type}→Nat→Cq0 R
def Blw(Adf:Al3)(Acp:Al4)(Ade:Apz)(Ab6:Ajl)(Afe:Apd)(Aff:Ape)(Ac7:Ap6):A15:=fun {R} N d m c n e f a=>Adf N d fun y0 o=>if ((o != 0)=true) then (a false) else if ((decide (e<0))=true) then (a false) else if ((decide (f<0))=true) then (a false) else Acp N fun p q r s t u v w x y z A B C D E F G H I J L M O P Q S T U V W X Y Z aa ab ac ad ae af ag ah ai aj ak al am an ao ap aq ar au av aw ax ay az ba bb bc bd be bf bg bh bi bj bk bl bm bn bo bp bq br bs bt bu bv bw bx bz ca cb cc cd ce cf cg ch ci cj ck cl cm cn co cp cq cr cs ct cu cv cw cx cy cz da db dc dd de df dg dh di dj dk dl dm dn dp=>Ade N N c (len c) 0 d m c n e f ((p,(q,(r,s)))::((t,(u,(v,w)))::((x,(y,(z,A)))::((B,(C,(D,E)))::((F,(G,(H,I)))::((J,(L,(M,O)))::((P,(Q,(S,T)))::((U,(V,(W,X)))::((Y,(Z,(aa,ab)))::((ac,(ad,(ae,af)))::((ag,(ah,(ai,aj)))::((ak,(al,(am,an)))::((ao,(ap,(aq,ar)))::((au,(av,(aw,ax)))::((ay,(az,(ba,bb)))::((bc,(bd,(be,bf)))::((bg,(bh,(bi,bj)))::((bk,(bl,(bm,bn)))::((bo,(bp,(bq,br)))::((bs,(bt,(bu,bv)))::((bw,(bx,(bz,ca)))::((cb,(cc,(cd,ce)))::((cf,(cg,(ch,ci)))::((cj,(ck,(cl,cm)))::((cn,(co,(cp,cq)))::((cr,(cs,(ct,cu)))::((cv,(cw,(cx,cy)))::((cz,(da,(db,dc)))::((dd,(de,(df,dg)))::((dh,(di,(dj,dk)))::((dl,(dm,(dn,dp)))::([]:List (List UInt8×Int×Int×Int))))))))))))))))))))))))))))))))) (fun dq=>a dq) fun g h b i j l=>Ab6 N g h b i j l fun dr ds dt=>if ((!dr)=true) then (a false) else Afe N b fun du=>if ((!du)=true) then (a false) else Aff N g h b i j l fun dv=>if ((!dv)=true) then (a false) else Ac7 N N 0 b (len b) 0 ds dt (fun dw=>a dw) (a true)
def Akp:A15:=@Blw @Adf @Acp @Ade @Ab6 @Afe @Aff @Ac7
def Dbt(N:Nat):Aas Blv [A3w]:=fun R x C=>Akp N x.1.1.1 x.1.1.2.1 x.1.1.2.2.1 x.1.1.2.2.2.1 x.1.1.2.2.2.2.1 x.1.1.2.2.2.2.2.1 (fun y0=>C.1 ((y0,()),(())))
def B2w(Akp:A15)(N:Nat):Go.AX.Aad:=Aaz [true] [] false 1 0 Blv [A3w] (fun R x C=>Akp N x.1.1.1 x.1.1.2.1 x.1.1.2.2.1 x.1.1.2.2.2.1 x.1.1.2.2.2.2.1 x.1.1.2.2.2.2.2.1 (fun y0=>C.1 ((y0,()),(()))))
def B2x(N:Nat):Go.AX.Aad:=B2w @Akp N
def Dbu(N:Nat):List (Nat×Aa6):=[(13,Aab Ah7 (Ba5 N N)),(40,Aab Aj8 (Bq0 N)),(33,Aab Ah9 (Bbj N N))]
def Cq1(N:Nat):List (Nat×Go.AX.Aad):=[(196,Bv7 N),(197,Bll N),(198,Buo N),(199,Bhd N),(200,B2u N),(201,B2v N),(202,Blu N)]
def Ao0:Code:=Tryz.f134.body.getD .skip
def Aqz:Code:=Tryz.f203.body.getD .skip
def Anv:Aac:=⟨[Aim,(3,.one (.val .bool)),wq7,(6,.one (.ptr 33)),B64,(11,.one (.val .bool))],C2l⟩
def Bbk:Aac:=⟨C2a,[]⟩
def Bbl:Aac:=⟨[Aim,wq7,(6,.one (.ptr 33))],C2l⟩
def Bxz:Afc:=.cons .ret Bbk (.cons .normal Bbl (.nil))
abbrev Cml(R:Type):=Int->Bool->Int->Bool->Int->Int->Int->(List UInt8)->Int->Int->Int->(Bool->Option R)->(Int->Int->Int->Int->(List UInt8)->Int->Int->Int->Option R)->Option R
abbrev Ap7:={R:Type}→Nat→Cml R
def Bhe(Abg:Ajf):Ap7:=fun {R} N b m l n c a d e f g h j i=>if (n=true) then (Abg N a 2 (wi (b-1)) fun o=>if ((!o)=true) then (j false) else i b c a d e f g h) else if ((l==4)=true) then (if ((decide (a<2))=true) then (j false) else i b c a d e f g h) else if ((l==23)=true) then (Abg N a 2 (wi (b-3)) fun p=>if ((!p)=true) then (j false) else i b c a d e f g h) else if ((l==18)=true) then (if ((!m)=true) then (if ((decide (a > (wi ((wi (b+2000))+2))))=true) then (j false) else i b c a d e f g h) else i b c a d e f g h) else i b c a d e f g h
def Agh:Ap7:=@Bhe @Abg
def A7h(Agh:Ap7)(N:Nat):Aa7 Anv:=fun R x K=>Agh N x.1.1 x.1.2.1 x.1.2.2.2.2.1 x.1.2.2.2.2.2.1 x.2.1.1 x.2.1.2.1 x.2.1.2.2.1 x.2.2.1.1 x.2.2.1.2.1 x.2.2.1.2.2.1 x.2.2.1.2.2.2.1 (fun y0=>K .ret (Aaf Bbk ((y0,()),(())))) (fun y0 y1 y2 y3 y4 y5 y6 y7=>K .normal (Aaf Bbl ((y0,(),(),()),((y1,y2,y3,()),(y4,y5,y6,y7,()),()))))
def Bx0(N:Nat):Aa7 Anv:=A7h @Agh N
def Amw:Aac:=⟨[Aim,wq7,(6,.one (.ptr 33))],C2l⟩
def A8g:Aac:=⟨C2a,[]⟩
def Bux:Afc:=.cons .ret A8g (.nil)
abbrev Cjr(R:Type):=Int->Int->Int->Int->(List UInt8)->Int->Int->Int->(Bool->Option R)->Option R
abbrev Arh:={R:Type}→Nat→Cjr R
def Afi:Arh:=fun {R} N b c e f g h d i a=>if ((c==24)=true) then (a true) else a (decide ((wi (b-d))≥2))
def A3x(Afi:Arh)(N:Nat):Aa7 Amw:=fun R x K=>Afi N x.1.1 x.2.1.1 x.2.1.2.1 x.2.1.2.2.1 x.2.2.1.1 x.2.2.1.2.1 x.2.2.1.2.2.1 x.2.2.1.2.2.2.1 (fun y0=>K .ret (Aaf A8g ((y0,()),(()))))
def Buy(N:Nat):Aa7 Amw:=A3x @Afi N
def Bq3:Aac:=⟨[C2f,Aim,C8f,(3,.one (.val .bool))],[]⟩
def A7i:Aac:=⟨Amm,[]⟩
abbrev Cvk(R:Type):=Int->Int->Int->Int->(List UInt8)->Int->Int->Int->Bool->(Bool->Option R)->Option R
abbrev Azk:={R:Type}→Nat→Cvk R
def Bq4(Agh:Ap7)(Afi:Arh):Azk:=fun {R} N a c d e f g h i j b=>if ((a==2)=true) then (Agh N e j a (a==2) a c d f g h i (fun l=>b l) fun m n o p q r s t=>Afi N m n o p q r s t fun u=>b u) else Agh N e j a (a==3) a c d f g h i (fun v=>b v) fun w x y z A B C D=>Afi N w x y z A B C D fun E=>b E
def Ag7:Azk:=@Bq4 @Agh @Afi
def Dc1(N:Nat):Aas Bq3 [A7i]:=fun R x C=>Ag7 N x.1.1.1 x.1.1.2.1 x.1.1.2.2.1 x.1.2.1 x.1.2.2.1.1 x.1.2.2.1.2.1 x.1.2.2.1.2.2.1 x.1.2.2.1.2.2.2.1 x.1.2.2.2.1 (fun y0=>C.1 ((y0,()),(())))
def Bq5(Ag7:Azk)(N:Nat):Go.AX.Aad:=Aaz [true,true,true,true] [] false 4 0 Bq3 [A7i] (fun R x C=>Ag7 N x.1.1.1 x.1.1.2.1 x.1.1.2.2.1 x.1.2.1 x.1.2.2.1.1 x.1.2.2.1.2.1 x.1.2.2.1.2.2.1 x.1.2.2.1.2.2.2.1 x.1.2.2.2.1 (fun y0=>C.1 ((y0,()),(()))))
def B7a(N:Nat):Go.AX.Aad:=Bq5 @Ag7 N
def Dc2(N:Nat):List (Nat×Aa6):=[(8,Aab Anv (Bx0 N)),(30,Aab Amw (Buy N))]
def Cvl(N:Nat):List (Nat×Go.AX.Aad):=[(277,Bde N)]
def Apf:Code:=Tryz.f204.body.getD .skip
def Alr:Aac:=⟨[wq6],[C2g]⟩
def A46:Aac:=⟨Cme,[]⟩
def Bq6:Afc:=.cons .ret A46 (.nil)
abbrev Cf5(R:Type):=Int->Int->Int->(Int->Option R)->Option R
abbrev Ap8:={R:Type}→Nat→Cf5 R
def Aex:Ap8:=fun {R} N c a d b=>b (wi (a+1))
def A0z(Aex:Ap8)(N:Nat):Aa7 Alr:=fun R x K=>Aex N x.2.1.1 x.2.1.2.1 x.2.1.2.2.1 (fun y0=>K .ret (Aaf A46 ((y0,()),(()))))
def Bq7(N:Nat):Aa7 Alr:=A0z @Aex N
def Als:Aac:=⟨[Aim,(5,.one (.ptr 32))],[(32,.cells 217 C8d)]⟩
def A47:Aac:=⟨Cme,[]⟩
def Bq8:Afc:=.cons .ret A47 (.nil)
abbrev Cf6(R:Type):=Int->(List UInt8)->Int->Int->Int->(Int->Option R)->Option R
abbrev Ap9:={R:Type}→Nat→Cf6 R
def Afa:Ap9:=fun {R} N a e f b c d=>d (wi ((wi (a-b))+c))
def A00(Afa:Ap9)(N:Nat):Aa7 Als:=fun R x K=>Afa N x.1.1 x.2.1.1 x.2.1.2.1 x.2.1.2.2.1 x.2.1.2.2.2.1 (fun y0=>K .ret (Aaf A47 ((y0,()),(()))))
def Bq9(N:Nat):Aa7 Als:=A00 @Afa N
def Blx:Aac:=⟨[C2f,Aim,C8f],[]⟩
def A3y:Aac:=⟨Afp,[]⟩
abbrev Cq2(R:Type):=Int->Int->Int->Int->(List UInt8)->Int->Int->Int->(Int->Option R)->Option R
abbrev Awi:={R:Type}→Nat→Cq2 R
def Bly(Aex:Ap8)(Afa:Ap9):Awi:=fun {R} N a c d e f g h i b=>if ((a==18)=true) then (b c) else if ((a==24)=true) then (b (wi (2+d))) else if ((a==23)=true) then (Aex N a c d fun j=>b j) else if ((a==28)=true) then (Aex N a c d fun l=>b l) else Afa N e f g h i fun m=>b m
def Agr:Awi:=@Bly @Aex @Afa
def Dbv(N:Nat):Aas Blx [A3y]:=fun R x C=>Agr N x.1.1.1 x.1.1.2.1 x.1.1.2.2.1 x.1.2.1 x.1.2.2.1.1 x.1.2.2.1.2.1 x.1.2.2.1.2.2.1 x.1.2.2.1.2.2.2.1 (fun y0=>C.1 ((y0,()),(())))
def Blz(Agr:Awi)(N:Nat):Go.AX.Aad:=Aaz [true,true,true] [] false 3 0 Blx [A3y] (fun R x C=>Agr N x.1.1.1 x.1.1.2.1 x.1.1.2.2.1 x.1.2.1 x.1.2.2.1.1 x.1.2.2.1.2.1 x.1.2.2.1.2.2.1 x.1.2.2.1.2.2.2.1 (fun y0=>C.1 ((y0,()),(()))))
def B2y(N:Nat):Go.AX.Aad:=Blz @Agr N
def Dbw(N:Nat):List (Nat×Aa6):=[(16,Aab Alr (Bq7 N)),(18,Aab Als (Bq9 N))]
def Cq3(N:Nat):List (Nat×Go.AX.Aad):=[]
def Ar7:Code:=Tryz.f205.body.getD .skip
def Ale:Aac:=⟨C79,[]⟩
def Ayt:Aac:=⟨[Aim],[]⟩
def Buz:Afc:=.cons (.exit 0) Ayt (.nil)
abbrev Bdr(R:Type):=d3->Int->(Int->Option R)->Option R
abbrev Bu0(R:Type):=d3->Int->Option R
abbrev A3z:={R:Type}→Nat→Nat→Bdr R
def Bds{R:Type}(N:Nat)(rc:Bu0 R):Bdr R:=fun b a c=>if (0≤a∧a<len b) then (if (((b.getD a.toNat (0,(0,0))).1==19)=true) then (rc b (wi (a+1))) else c a) else none
def Af6{R:Type}(N:Nat):Nat→Bdr R
 |0=>fun _ _ _=>none
 |k+1=>fun a b c=>Bds N (fun a b=>Af6 N k a b c) a b c
def Bdt(Af6:A3z)(N k:Nat):Aa7 Ale:=fun R x K=>Af6 N k x.1.1 x.1.2.1 (fun y0=>K (.exit 0) (Aaf Ayt ((y0,()),(()))))
def Bdu(N k:Nat):Aa7 Ale:=Bdt @Af6 N k
def Bl0:Aac:=⟨C79,[]⟩
def A30:Aac:=⟨Afp,[]⟩
abbrev Cq4(R:Type):=d3->Int->(Int->Option R)->Option R
abbrev Awj:={R:Type}→Nat→Cq4 R
def Bl1(Af6:A3z):Awj:=fun {R} N a b c=>Af6 N N a b fun d=>c d
def Ad9:Awj:=@Bl1 @Af6
def Dbx(N:Nat):Aas Bl0 [A30]:=fun R x C=>Ad9 N x.1.1 x.1.2.1 (fun y0=>C.1 ((y0,()),(())))
def Bl2(Ad9:Awj)(N:Nat):Go.AX.Aad:=Aaz [true,true] [] false 2 0 Bl0 [A30] (fun R x C=>Ad9 N x.1.1 x.1.2.1 (fun y0=>C.1 ((y0,()),(()))))
def B2z(N:Nat):Go.AX.Aad:=Bl2 @Ad9 N
def Dby(N:Nat):List (Nat×Aa6):=[(3,Aab Ale (Bdu N N))]
def Cq5(N:Nat):List (Nat×Go.AX.Aad):=[]
def Aiv:Aac:=⟨[wq5,(3,.one (.ptr 1000)),(4,.one (.slf 33)),Bc6,(19,.one (.val z4)),(20,.one wq0),(21,.one wq0)],[Cbk,Cmb,(1000,.row 218 (.pair .str z2))]⟩
def Asr:Aac:=⟨B01,[]⟩
def Ass:Aac:=⟨[],[]⟩
def Bjl:Afc:=.cons .ret Asr (.cons (.exit 0) Ass (.nil))
abbrev A48(R:Type):=Int->d3->Int->Int->(List UInt8)->d4->d3->d2->Int->Int->d0->(List ((List UInt8×(Int×(Int×Int)))))->(Bool->Option R)->(Option R)->Option R
abbrev Aq0(R:Type):=Int->d3->Int->Int->(List UInt8)->d4->d3->d2->Int->Int->d0->(List ((List UInt8×(Int×(Int×Int)))))->Option R
abbrev Axe:={R:Type}→Nat→Nat→A48 R
def A49(Ag7:Azk)(Agr:Awi)(Aca:Akg)(Ad9:Awj)(Ab5:Alo){R:Type}(N:Nat)(rc:Aq0 R):A48 R:=fun s e g c h i a j l m f d n L=>if ((decide (c<g))=true) then (if (0≤c∧c<len e) then (let b:=(e.getD c.toNat (0,(0,0))).1;let q:=(e.getD c.toNat (0,(0,0))).2.1;let r:=(e.getD c.toNat (0,(0,0))).2.2;if ((0≤b)∧(b<31)) then (if (b<(len d)) then (let t:=(d.getD b.toNat (([]:List UInt8),(0,(0,0)))).1;let u:=(d.getD b.toNat (([]:List UInt8),(0,(0,0)))).2.1;let v:=(d.getD b.toNat (([]:List UInt8),(0,(0,0)))).2.2.1;let w:=(d.getD b.toNat (([]:List UInt8),(0,(0,0)))).2.2.2;if ((decide (c > 0))=true) then (let D:=(wi (c-1));if (0≤D∧D<len a) then (Ag7 N b q r s t u v w ((a.getD D.toNat (0,(0,0))).1==19) fun M=>if ((!M)=true) then (n false) else if ((0≤b)∧(b<31)) then (if (b<(len d)) then (Agr N b q r s t u v w fun o=>if ((decide (o<2))=true) then (n false) else if ((decide (o > 4000))=true) then (n false) else Aca N b q r fun x=>if ((decide (x > 0))=true) then (if (0≤x∧x<len f) then (Ad9 N a (f.getD x.toNat 0) fun E=>if (0≤E∧E<len a) then (if ((!(((a.getD E.toNat (0,(0,0))).1==28)==(b==27)))=true) then (n false) else if ((b != 19)=true) then (Ab5 N a c fun O=>if ((!O)=true) then (let y:=(wi (c+1));if ((decide (y<(len a)))=true) then (Ad9 N a y fun F=>if (0≤F∧F<len a) then (if (((a.getD F.toNat (0,(0,0))).1==28)=true) then (n false) else rc o e g y h i a j l m f d) else none) else rc o e g y h i a j l m f d) else rc o e g (wi (c+1)) h i a j l m f d) else rc o e g (wi (c+1)) h i a j l m f d) else none) else none) else if ((b != 19)=true) then (Ab5 N a c fun P=>if ((!P)=true) then (let z:=(wi (c+1));if ((decide (z<(len a)))=true) then (Ad9 N a z fun G=>if (0≤G∧G<len a) then (if (((a.getD G.toNat (0,(0,0))).1==28)=true) then (n false) else rc o e g z h i a j l m f d) else none) else rc o e g z h i a j l m f d) else rc o e g (wi (c+1)) h i a j l m f d) else rc o e g (wi (c+1)) h i a j l m f d) else none) else none) else none) else Ag7 N b q r s t u v w false fun Q=>if ((!Q)=true) then (n false) else if ((0≤b)∧(b<31)) then (if (b<(len d)) then (Agr N b q r s t u v w fun p=>if ((decide (p<2))=true) then (n false) else if ((decide (p > 4000))=true) then (n false) else Aca N b q r fun A=>if ((decide (A > 0))=true) then (if (0≤A∧A<len f) then (Ad9 N a (f.getD A.toNat 0) fun H=>if (0≤H∧H<len a) then (if ((!(((a.getD H.toNat (0,(0,0))).1==28)==(b==27)))=true) then (n false) else if ((b != 19)=true) then (Ab5 N a c fun S=>if ((!S)=true) then (let B:=(wi (c+1));if ((decide (B<(len a)))=true) then (Ad9 N a B fun I=>if (0≤I∧I<len a) then (if (((a.getD I.toNat (0,(0,0))).1==28)=true) then (n false) else rc p e g B h i a j l m f d) else none) else rc p e g B h i a j l m f d) else rc p e g (wi (c+1)) h i a j l m f d) else rc p e g (wi (c+1)) h i a j l m f d) else none) else none) else if ((b != 19)=true) then (Ab5 N a c fun T=>if ((!T)=true) then (let C:=(wi (c+1));if ((decide (C<(len a)))=true) then (Ad9 N a C fun J=>if (0≤J∧J<len a) then (if (((a.getD J.toNat (0,(0,0))).1==28)=true) then (n false) else rc p e g C h i a j l m f d) else none) else rc p e g C h i a j l m f d) else rc p e g (wi (c+1)) h i a j l m f d) else rc p e g (wi (c+1)) h i a j l m f d) else none) else none) else none) else none) else none) else L
def Adr{R:Type}(N:Nat):Nat→A48 R
 |0=>fun _ _ _ _ _ _ _ _ _ _ _ _ _ _=>none
 |k+1=>fun a b c d e f g h i j l m n o=>A49 @Ag7 @Agr @Aca @Ad9 @Ab5 N (fun a b c d e f g h i j l m=>Adr N k a b c d e f g h i j l m n o) a b c d e f g h i j l m n o
def A5a(Adr:Axe)(N k:Nat):Aa7 Aiv:=fun R x K=>Adr N k x.1.2.2.2.1 x.1.2.2.2.2.1 x.1.2.2.2.2.2.1 x.1.2.2.2.2.2.2.1 x.2.1.1 x.2.1.2.1 x.2.1.2.2.1 x.2.1.2.2.2.1 x.2.1.2.2.2.2.1 x.2.1.2.2.2.2.2.1 x.2.2.1 x.2.2.2.1 (fun y0=>K .ret (Aaf Asr ((y0,()),(())))) (K (.exit 0) (Aaf Ass ((()),(()))))
def A5b(N k:Nat):Aa7 Aiv:=A5a @Adr N k
def Bdv:Aac:=⟨Cbj,[]⟩
def Ayu:Aac:=⟨Amm,[]⟩
abbrev Cjs(R:Type):=(List UInt8)->d4->d3->d2->Int->Int->(Bool->Option R)->Option R
abbrev Axf:={R:Type}→Nat→Cjs R
def Bdw(Acp:Al4)(Ab6:Ajl)(Adr:Axe):Axf:=fun {R} N b c a d e f g=>Acp N fun h i j l m n o p q r s t u v w x y z A B C D E F G H I J L M O P Q S T U V W X Y Z aa ab ac ad ae af ag ah ai aj ak al am an ao ap aq ar au av aw ax ay az ba bb bc bd be bf bg bh bi bj bk bl bm bn bo bp bq br bs bt bu bv bw bx bz ca cb cc cd ce cf cg ch ci cj ck cl cm cn co cp cq cr cs ct cu cv cw cx cy cz da db dc dd de df dg dh=>Ab6 N b c a d e f fun dk di dl=>Adr N N 0 a (len a) 0 b c a d e f di ((h,(i,(j,l)))::((m,(n,(o,p)))::((q,(r,(s,t)))::((u,(v,(w,x)))::((y,(z,(A,B)))::((C,(D,(E,F)))::((G,(H,(I,J)))::((L,(M,(O,P)))::((Q,(S,(T,U)))::((V,(W,(X,Y)))::((Z,(aa,(ab,ac)))::((ad,(ae,(af,ag)))::((ah,(ai,(aj,ak)))::((al,(am,(an,ao)))::((ap,(aq,(ar,au)))::((av,(aw,(ax,ay)))::((az,(ba,(bb,bc)))::((bd,(be,(bf,bg)))::((bh,(bi,(bj,bk)))::((bl,(bm,(bn,bo)))::((bp,(bq,(br,bs)))::((bt,(bu,(bv,bw)))::((bx,(bz,(ca,cb)))::((cc,(cd,(ce,cf)))::((cg,(ch,(ci,cj)))::((ck,(cl,(cm,cn)))::((co,(cp,(cq,cr)))::((cs,(ct,(cu,cv)))::((cw,(cx,(cy,cz)))::((da,(db,(dc,dd)))::((de,(df,(dg,dh)))::([]:List (List UInt8×Int×Int×Int))))))))))))))))))))))))))))))))) (fun dj=>g dj) (g true)
def Ain:Axf:=@Bdw @Acp @Ab6 @Adr
def C9c(N:Nat):Aas Bdv [Ayu]:=fun R x C=>Ain N x.1.1.1 x.1.1.2.1 x.1.1.2.2.1 x.1.1.2.2.2.1 x.1.1.2.2.2.2.1 x.1.1.2.2.2.2.2.1 (fun y0=>C.1 ((y0,()),(())))
def Bu1(Ain:Axf)(N:Nat):Go.AX.Aad:=Aaz [true] [] false 1 0 Bdv [Ayu] (fun R x C=>Ain N x.1.1.1 x.1.1.2.1 x.1.1.2.2.1 x.1.1.2.2.2.1 x.1.1.2.2.2.2.1 x.1.1.2.2.2.2.2.1 (fun y0=>C.1 ((y0,()),(()))))
def Bu2(N:Nat):Go.AX.Aad:=Bu1 @Ain N
def C9d(N:Nat):List (Nat×Aa6):=[(11,Aab Aiv (A5b N N))]
def Cjt(N:Nat):List (Nat×Go.AX.Aad):=[(197,Bll N),(199,Bhd N),(203,B7a N),(204,B2y N),(202,Blu N),(205,B2z N),(206,Bqs N)]
def Bl3:Aac:=⟨Cbj,[]⟩
def A31:Aac:=⟨Afp,[]⟩
abbrev Cq6(R:Type):=(List UInt8)->d4->d3->d2->Int->Int->(Int->Option R)->Option R
abbrev Al5:={R:Type}→Nat→Cq6 R
def Bl4(Ako:A1z)(Akp:A15)(Ain:Axf):Al5:=fun {R} N b c d e f g a=>Ako N b c d e f g fun h=>if (h=true) then (a 2) else Akp N b c d e f g fun i=>if ((!i)=true) then (a 60) else Ain N b c d e f g fun j=>if ((!j)=true) then (a 61) else a 0
def Adg:Al5:=@Bl4 @Ako @Akp @Ain
def Dbz(N:Nat):Aas Bl3 [A31]:=fun R x C=>Adg N x.1.1.1 x.1.1.2.1 x.1.1.2.2.1 x.1.1.2.2.2.1 x.1.1.2.2.2.2.1 x.1.1.2.2.2.2.2.1 (fun y0=>C.1 ((y0,()),(())))
def Awk(Adg:Al5)(N:Nat):Go.AX.Aad:=Aaz [true] [] false 1 0 Bl3 [A31] (fun R x C=>Adg N x.1.1.1 x.1.1.2.1 x.1.1.2.2.1 x.1.1.2.2.2.1 x.1.1.2.2.2.2.1 x.1.1.2.2.2.2.2.1 (fun y0=>C.1 ((y0,()),(()))))
def Bl5(N:Nat):Go.AX.Aad:=Awk @Adg N
def Db0(N:Nat):List (Nat×Aa6):=[]
def Cq7(N:Nat):List (Nat×Go.AX.Aad):=[(132,B2p N),(133,B2x N),(134,Bu2 N)]
def Bx1:Code:=Tryz.f39.body.getD .skip
def A9g:Code:=Tryz.f40.body.getD .skip
def Ar8:Aac:=⟨[Cl9,Aim,Bqb,(10,.one (.val .bool))],[]⟩
def Bdx:Aac:=⟨[Cma],[]⟩
def Bdy:Aac:=⟨[],[]⟩
def B20:Afc:=.cons .ret Bdx (.cons .normal Bdy (.nil))
abbrev Cq8(R:Type):=d5->Int->Int->Bool->(Bool->Option R)->(Option R)->Option R
abbrev A16:={R:Type}→Nat→Cq8 R
def Aih:A16:=fun {R} N a b e f c g=>if (f=true) then (c true) else if ((e==14)=true) then (if (0≤b∧b<len a) then (c ((a.getD b.toNat (0,(0,(0,(0,0))))).2.2.1==0)) else none) else if ((e==15)=true) then (let d:=(wi (b+1));if ((d==(len a))=true) then (c true) else if (0≤d∧d<len a) then (c ((a.getD d.toNat (0,(0,(0,(0,0))))).1 != 15)) else none) else g
def Bl6(Aih:A16)(N:Nat):Aa7 Ar8:=fun R x K=>Aih N x.1.1 x.1.2.1 x.1.2.2.1 x.1.2.2.2.1 (fun y0=>K .ret (Aaf Bdx ((y0,()),(())))) (K .normal (Aaf Bdy ((()),(()))))
def B21(N:Nat):Aa7 Ar8:=Bl6 @Aih N
def Bv8:Aac:=⟨[Cl9,Aim],[]⟩
def Baa:Aac:=⟨Amm,[]⟩
abbrev Cye(R:Type):=d5->Int->(Bool->Option R)->Option R
abbrev A9h:={R:Type}→Nat→Cye R
def Bv9(Aih:A16):A9h:=fun {R} N c a d=>if (0≤a∧a<len c) then (let b:=(c.getD a.toNat (0,(0,(0,(0,0))))).1;if ((b==9)=true) then (Aih N c a b (b==9) (fun e=>d e) (d false)) else Aih N c a b (b==13) (fun f=>d f) (d false)) else none
def Anw:A9h:=@Bv9 @Aih
def Ddy(N:Nat):Aas Bv8 [Baa]:=fun R x C=>Anw N x.1.1 x.1.2.1 (fun y0=>C.1 ((y0,()),(())))
def Cek(Anw:A9h)(N:Nat):Go.AX.Aad:=Aaz [true,true] [] false 2 0 Bv8 [Baa] (fun R x C=>Anw N x.1.1 x.1.2.1 (fun y0=>C.1 ((y0,()),(()))))
def Cel(N:Nat):Go.AX.Aad:=Cek @Anw N
def Ddz(N:Nat):List (Nat×Aa6):=[(8,Aab Ar8 (B21 N))]
def Cyf(N:Nat):List (Nat×Go.AX.Aad):=[]
def Bhf:Aac:=⟨[Baw,wq2],B66⟩
def A01:Aac:=⟨Amm,B66⟩
abbrev Cmm(R:Type):=Int->(List UInt8)->d4->d2->d3->d5->(Bool->(List UInt8)->d4->d2->d3->d5->Option R)->Option R
abbrev Anx:={R:Type}→Nat→Cmm R
def A7j(Anw:A9h):Anx:=fun {R} N b c d e f a g=>Anw N a b fun h=>g h c d e f a
def Aeb:Anx:=@A7j @Anw
def Daf(N:Nat):Aas Bhf [A01]:=fun R x C=>Aeb N x.1.1 x.2.1.1 x.2.1.2.1 x.2.1.2.2.1 x.2.1.2.2.2.1 x.2.1.2.2.2.2.1 (fun y0 y1 y2 y3 y4 y5=>C.1 ((y0,()),((y1,y2,y3,y4,y5,()),())))
def A7k(Aeb:Anx)(N:Nat):Go.AX.Aad:=Aaz [true] [] false 2 1 Bhf [A01] (fun R x C=>Aeb N x.1.1 x.2.1.1 x.2.1.2.1 x.2.1.2.2.1 x.2.1.2.2.2.1 x.2.1.2.2.2.2.1 (fun y0 y1 y2 y3 y4 y5=>C.1 ((y0,()),((y1,y2,y3,y4,y5,()),()))))
def Bx2(N:Nat):Go.AX.Aad:=A7k @Aeb N
def Dag(N:Nat):List (Nat×Aa6):=[]
def Cmn(N:Nat):List (Nat×Go.AX.Aad):=[(40,Cel N)]
def Bx3:Code:=Tryz.f41.body.getD .skip
def Bhg:Aac:=⟨[Baw,wq2],B66⟩
def A02:Aac:=⟨Amm,B66⟩
abbrev Cmo(R:Type):=Int->(List UInt8)->d4->d2->d3->d5->(Bool->(List UInt8)->d4->d2->d3->d5->Option R)->Option R
abbrev At7:={R:Type}→Nat→Cmo R
def Agi:At7:=fun {R} N a c d e f b g=>if (0≤a∧a<len b) then (g ((b.getD a.toNat (0,(0,(0,(0,0))))).1==15) c d e f b) else none
def Cmp(N:Nat):Aas Bhg [A02]:=fun R x C=>Agi N x.1.1 x.2.1.1 x.2.1.2.1 x.2.1.2.2.1 x.2.1.2.2.2.1 x.2.1.2.2.2.2.1 (fun y0 y1 y2 y3 y4 y5=>C.1 ((y0,()),((y1,y2,y3,y4,y5,()),())))
def A7l(Agi:At7)(N:Nat):Go.AX.Aad:=Aaz [true] [] false 2 1 Bhg [A02] (fun R x C=>Agi N x.1.1 x.2.1.1 x.2.1.2.1 x.2.1.2.2.1 x.2.1.2.2.2.1 x.2.1.2.2.2.2.1 (fun y0 y1 y2 y3 y4 y5=>C.1 ((y0,()),((y1,y2,y3,y4,y5,()),()))))
def Bx4(N:Nat):Go.AX.Aad:=A7l @Agi N
def Cmq(N:Nat):List (Nat×Aa6):=[]
def Bx5(N:Nat):List (Nat×Go.AX.Aad):=[]
def Ajy:Aac:=⟨[C17,C18,wq6,(68,.one (.val z4)),(69,.one wq0),(70,.one wq0)],[Cmh,Cve]⟩
def Ayv:Aac:=⟨[Dcq,(7,.one (.val .bool))],B66⟩
def Ayw:Aac:=⟨[],B66⟩
def Bu3:Afc:=.cons .ret Ayv (.cons (.exit 3) Ayw (.nil))
abbrev Bdz(R:Type):=d3->Int->Int->(List UInt8)->d4->d2->d3->d5->(List UInt8)->d4->d2->d3->d5->(Bool->Bool->(List UInt8)->d4->d2->d3->d5->Option R)->((List UInt8)->d4->d2->d3->d5->Option R)->Option R
abbrev Bu4(R:Type):=d3->Int->Int->(List UInt8)->d4->d2->d3->d5->(List UInt8)->d4->d2->d3->d5->Option R
abbrev Axg:={R:Type}→Nat→Nat→Bdz R
def Bd0(Agi:At7)(Aeb:Anx){R:Type}(N:Nat)(rc:Bu4 R):Bdz R:=fun h p a j l m n o r s t u q b C=>if ((decide (a<p))=true) then (if (0≤a∧a<len h) then (let i:=(h.getD a.toNat (0,(0,0))).1;let v:=(h.getD a.toNat (0,(0,0))).2.1;let w:=(h.getD a.toNat (0,(0,0))).2.2;if ((decide (i<0))=true) then (b false false j l m n o) else if ((decide (i≥(len q)))=true) then (b false false j l m n o) else Agi N i j l m n o fun D c d e f g=>if (D=true) then (b false false c d e f g) else if ((decide (v<0))=true) then (b false false c d e f g) else if ((decide (v > 8))=true) then (b false false c d e f g) else if ((decide (w<2))=true) then (b false false c d e f g) else if ((decide (w > 4001))=true) then (b false false c d e f g) else if ((decide (i > 0))=true) then (Aeb N (wi (i-1)) c d e f g fun E x y z A B=>if ((!E)=true) then (b false false x y z A B) else rc h p (wi (a+1)) x y z A B r s t u q) else rc h p (wi (a+1)) c d e f g r s t u q) else none) else C j l m n o
def Aer{R:Type}(N:Nat):Nat→Bdz R
 |0=>fun _ _ _ _ _ _ _ _ _ _ _ _ _ _ _=>none
 |k+1=>fun a b c d e f g h i j l m n o p=>Bd0 @Agi @Aeb N (fun a b c d e f g h i j l m n=>Aer N k a b c d e f g h i j l m n o p) a b c d e f g h i j l m n o p
def A32(Aer:Axg)(N k:Nat):Aa7 Ajy:=fun R x K=>Aer N k x.1.2.2.2.1 x.1.2.2.2.2.1 x.1.2.2.2.2.2.1 x.2.1.1 x.2.1.2.1 x.2.1.2.2.1 x.2.1.2.2.2.1 x.2.1.2.2.2.2.1 x.2.2.1.1 x.2.2.1.2.1 x.2.2.1.2.2.1 x.2.2.1.2.2.2.1 x.2.2.1.2.2.2.2.1 (fun y0 y1 y2 y3 y4 y5 y6=>K .ret (Aaf Ayv ((y0,y1,()),((y2,y3,y4,y5,y6,()),())))) (fun y0 y1 y2 y3 y4=>K (.exit 3) (Aaf Ayw ((()),((y0,y1,y2,y3,y4,()),()))))
def Bd1(N k:Nat):Aa7 Ajy:=A32 @Aer N k
def Bra:Aac:=⟨[Cmg,C17,C18],B66⟩
def A7m:Aac:=⟨[C7z,C70],B66⟩
abbrev Cvm(R:Type):=(List UInt8)->d4->d2->d3->d5->(List UInt8)->d4->d2->d3->d5->(Bool->Bool->(List UInt8)->d4->d2->d3->d5->Option R)->Option R
abbrev Azl:={R:Type}→Nat→Cvm R
def Brb(Aep:Awv)(Adg:Al5)(Aeb:Anx)(Aer:Axg):Azl:=fun {R} N p q r c s j l m n o a=>if ((decide ((len s) > 32000))=true) then (a true false j l m n o) else if ((decide ((len c) > 200))=true) then (a true false j l m n o) else Aep N N (len c) 0 j l m n o p q r c s p q r (len c) 0 ([]:List (Int×Int×Int)) fun d e f g h t u v b i C D E F G H=>Adg N C D H E F G fun w=>if ((w==2)=true) then (a true false d e f g h) else if ((w==60)=true) then (a false false d e f g h) else if ((decide ((len i) > 0))=true) then (Aeb N (wi ((len i)-1)) d e f g h fun I x y z A B=>if ((!I)=true) then (a false false x y z A B) else Aer N N b (len b) 0 x y z A B t u v b i (fun J L M O P Q S=>a J L M O P Q S) fun T U V W X=>a false true T U V W X) else Aer N N b (len b) 0 d e f g h t u v b i (fun Y Z aa ab ac ad ae=>a Y Z aa ab ac ad ae) fun af ag ah ai aj=>a false true af ag ah ai aj
def Ajg:Azl:=@Brb @Aep @Adg @Aeb @Aer
def Dc3(N:Nat):Aas Bra [A7m]:=fun R x C=>Ajg N x.1.1.1 x.1.1.2.1 x.1.1.2.2.1 x.1.1.2.2.2.1 x.1.1.2.2.2.2.1 x.2.1.1 x.2.1.2.1 x.2.1.2.2.1 x.2.1.2.2.2.1 x.2.1.2.2.2.2.1 (fun y0 y1 y2 y3 y4 y5 y6=>C.1 ((y0,y1,()),((y2,y3,y4,y5,y6,()),())))
def Brc(Ajg:Azl)(N:Nat):Go.AX.Aad:=Aaz [true,true,true] [] false 3 1 Bra [A7m] (fun R x C=>Ajg N x.1.1.1 x.1.1.2.1 x.1.1.2.2.1 x.1.1.2.2.2.1 x.1.1.2.2.2.2.1 x.2.1.1 x.2.1.2.1 x.2.1.2.2.1 x.2.1.2.2.2.1 x.2.1.2.2.2.2.1 (fun y0 y1 y2 y3 y4 y5 y6=>C.1 ((y0,y1,()),((y2,y3,y4,y5,y6,()),()))))
def B7b(N:Nat):Go.AX.Aad:=Brc @Ajg N
def Dc4(N:Nat):List (Nat×Aa6):=[(11,Aab Ajw (Bc9 N N)),(35,Aab Ajy (Bd1 N N))]
def Cvn(N:Nat):List (Nat×Go.AX.Aad):=[(77,Bl5 N),(39,Bx2 N),(41,Bx4 N)]
def B7c:Code:=Tryz.f42.body.getD .skip
def Brd:Aac:=⟨C8c,[]⟩
def A7n:Aac:=⟨[C15],[(32,.cells 72 [(.val .str),(.val z3),(.val z1),(.val z4),(.val z6),(.mp 33)]),(33,.fmap 70 .i64 [(3:Int),(4:Int),(5:Int),(13:Int),(38:Int),(39:Int),(1:Int),(6:Int),(7:Int),(8:Int),(21:Int),(22:Int),(23:Int),(24:Int),(25:Int),(26:Int),(27:Int),(28:Int),(29:Int),(30:Int),(31:Int),(32:Int),(33:Int),(34:Int),(35:Int),(36:Int),(37:Int),(9:Int),(10:Int),(11:Int),(2:Int),(12:Int),(14:Int),(15:Int)] [(.fn 78),(.fn 78),(.fn 78),(.fn 78),(.fn 78),(.fn 78),(.fnp 79 [34]),(.fnp 79 [34]),(.fnp 79 [34]),(.fnp 79 [34]),(.fnp 79 [34]),(.fnp 79 [34]),(.fnp 79 [34]),(.fnp 79 [34]),(.fnp 79 [34]),(.fnp 79 [34]),(.fnp 79 [34]),(.fnp 79 [34]),(.fnp 79 [34]),(.fnp 79 [34]),(.fnp 79 [34]),(.fnp 79 [34]),(.fnp 79 [34]),(.fnp 79 [34]),(.fnp 79 [34]),(.fnp 79 [34]),(.fnp 79 [34]),(.fnp 81 [34]),(.fnp 81 [34]),(.fnp 81 [34]),(.fnp 83 [35]),(.fn 84),(.fnp 85 [34]),(.fnp 86 [34])]),(34,.cells 67 [(.ptr 32)]),(35,.cells 69 [(.fnp 79 [34])])]⟩
abbrev Cvo(R:Type):=(List UInt8)->d4->d2->d3->d5->((List UInt8)->d4->d2->d3->d5->Option R)->Option R
abbrev A5c:={R:Type}→Nat→Cvo R
def Aj9:A5c:=fun {R} N a b c d e f=>f a b c d e
def Cvp(N:Nat):Aas Brd [A7n]:=fun R x C=>Aj9 N x.1.1.1 x.1.1.2.1 x.1.1.2.2.1 x.1.1.2.2.2.1 x.1.1.2.2.2.2.1 (fun y0 y1 y2 y3 y4=>C.1 (((),()),((y0,y1,y2,y3,y4,(),()),((),(),(),(),(),(),(),(),(),(),(),(),(),(),(),(),(),(),(),(),(),(),(),(),(),(),(),(),(),(),(),(),(),(),()),((),()),((),()),())))
def Bre(Aj9:A5c)(N:Nat):Go.AX.Aad:=Aaz [true] [] false 1 0 Brd [A7n] (fun R x C=>Aj9 N x.1.1.1 x.1.1.2.1 x.1.1.2.2.1 x.1.1.2.2.2.1 x.1.1.2.2.2.2.1 (fun y0 y1 y2 y3 y4=>C.1 (((),()),((y0,y1,y2,y3,y4,(),()),((),(),(),(),(),(),(),(),(),(),(),(),(),(),(),(),(),(),(),(),(),(),(),(),(),(),(),(),(),(),(),(),(),(),()),((),()),((),()),()))))
def B7d(N:Nat):Go.AX.Aad:=Bre @Aj9 N
def Cvq(N:Nat):List (Nat×Aa6):=[]
def B7e(N:Nat):List (Nat×Go.AX.Aad):=[]
def Bx6:Code:=Tryz.f78.body.getD .skip
def Bhh:Aac:=⟨Csw,[]⟩
def A03:Aac:=⟨Amm,[]⟩
abbrev Cmr(R:Type):=Int->Int->Int->Int->Int->(Bool->Option R)->Option R
abbrev Azm:={R:Type}→Nat→Cmr R
def Aez:Azm:=fun {R} N e b c d f a=>if ((b==0)=true) then (if ((c==0)=true) then (a (d==0)) else a false) else a false
def Cms(N:Nat):Aas Bhh [A03]:=fun R x C=>Aez N x.1.1.1 x.1.1.2.1 x.1.1.2.2.1 x.1.1.2.2.2.1 x.1.1.2.2.2.2.1 (fun y0=>C.1 ((y0,()),(())))
def Bhi(Aez:Azm)(N:Nat):Go.AX.Aad:=Aaz [true] [] false 1 0 Bhh [A03] (fun R x C=>Aez N x.1.1.1 x.1.1.2.1 x.1.1.2.2.1 x.1.1.2.2.2.1 x.1.1.2.2.2.2.1 (fun y0=>C.1 ((y0,()),(()))))
def Bx7(N:Nat):Go.AX.Aad:=Bhi @Aez N
def Cmt(N:Nat):List (Nat×Aa6):=[]
def Bx8(N:Nat):List (Nat×Go.AX.Aad):=[]
def Bx9:Code:=Tryz.f79.body.getD .skip
def Bjm:Code:=Tryz.f80.body.getD .skip
def Anb:Code:=Tryz.f135.body.getD .skip
def Ama:Aac:=⟨[Aui,wq6,Bc6,(34,.one (.val .bool))],Cvf⟩
def Bbm:Aac:=⟨C19,[]⟩
def Bbn:Aac:=⟨[],[]⟩
def Bya:Afc:=.cons .ret Bbm (.cons .normal Bbn (.nil))
abbrev Cmu(R:Type):=Int->Int->Bool->(List UInt8)->d4->d2->d3->d5->(Bool->Option R)->(Option R)->Option R
abbrev Aqa:={R:Type}→Nat→Cmu R
def Ae0:Aqa:=fun {R} N a c d h e i f j b g=>if (d=true) then (if ((decide (a≥0))=true) then (b (decide (a<(len e)))) else b false) else if ((c==7)=true) then (if ((decide (a≥1))=true) then (b (decide (a≤(len f)))) else b false) else g
def Azn(Ae0:Aqa)(N:Nat):Aa7 Ama:=fun R x K=>Ae0 N x.1.1 x.1.2.2.1 x.1.2.2.2.1 x.2.1.1 x.2.1.2.1 x.2.1.2.2.1 x.2.1.2.2.2.1 x.2.1.2.2.2.2.1 (fun y0=>K .ret (Aaf Bbm ((y0,()),(())))) (K .normal (Aaf Bbn ((()),(()))))
def Byb(N:Nat):Aa7 Ama:=Azn @Ae0 N
def Amb:Aac:=⟨[Aui,wq6,Bc6,(25,.one (.val .bool))],Cvf⟩
def Bbo:Aac:=⟨C19,[]⟩
def Bbp:Aac:=⟨[],[]⟩
def Byc:Afc:=.cons .ret Bbo (.cons .normal Bbp (.nil))
abbrev Cmv(R:Type):=Int->Int->Bool->(List UInt8)->d4->d2->d3->d5->(Bool->Option R)->(Option R)->Option R
abbrev Anz:={R:Type}→Nat→Cmv R
def Bhj(Ae0:Aqa):Anz:=fun {R} N b a j d e f g h c i=>if (j=true) then (if ((decide (b≥0))=true) then (c (decide (b<200))) else c false) else if ((a==3)=true) then (Ae0 N b a (a==3) d e f g h (fun l=>c l) i) else Ae0 N b a (a==6) d e f g h (fun m=>c m) i
def Afg:Anz:=@Bhj @Ae0
def Azo(Afg:Anz)(N:Nat):Aa7 Amb:=fun R x K=>Afg N x.1.1 x.1.2.2.1 x.1.2.2.2.1 x.2.1.1 x.2.1.2.1 x.2.1.2.2.1 x.2.1.2.2.2.1 x.2.1.2.2.2.2.1 (fun y0=>K .ret (Aaf Bbo ((y0,()),(())))) (K .normal (Aaf Bbp ((()),(()))))
def Byd(N:Nat):Aa7 Amb:=Azo @Afg N
def Amc:Aac:=⟨[Aui,wq6,Bc6,(16,.one (.val .bool))],Cvf⟩
def Bbq:Aac:=⟨C19,[]⟩
def Bbr:Aac:=⟨[],[]⟩
def Bye:Afc:=.cons .ret Bbq (.cons .normal Bbr (.nil))
abbrev Cmw(R:Type):=Int->Int->Bool->(List UInt8)->d4->d2->d3->d5->(Bool->Option R)->(Option R)->Option R
abbrev An0:={R:Type}→Nat→Cmw R
def Bhk(Afg:Anz):An0:=fun {R} N b a j d e f g h c i=>if (j=true) then (if ((decide (b≥0))=true) then (c (decide (b≤4000))) else c false) else if ((a==2)=true) then (Afg N b a (a==2) d e f g h (fun l=>c l) i) else Afg N b a (a==5) d e f g h (fun m=>c m) i
def Afh:An0:=@Bhk @Afg
def Azp(Afh:An0)(N:Nat):Aa7 Amc:=fun R x K=>Afh N x.1.1 x.1.2.2.1 x.1.2.2.2.1 x.2.1.1 x.2.1.2.1 x.2.1.2.2.1 x.2.1.2.2.2.1 x.2.1.2.2.2.2.1 (fun y0=>K .ret (Aaf Bbq ((y0,()),(())))) (K .normal (Aaf Bbr ((()),(()))))
def Byf(N:Nat):Aa7 Amc:=Azp @Afh N
def Bwa:Aac:=⟨[Cmg,Aim,Aui],[]⟩
def Bab:Aac:=⟨Amm,[]⟩
abbrev Cyg(R:Type):=(List UInt8)->d4->d2->d3->d5->Int->Int->(Bool->Option R)->Option R
abbrev A9i:={R:Type}→Nat→Cyg R
def Bwb(Afh:An0):A9i:=fun {R} N d e f g h a c b=>if ((a==0)=true) then (if ((decide (c≥(-2147483648)))=true) then (b (decide (c≤2147483647))) else b false) else if ((a==1)=true) then (Afh N c a (a==1) d e f g h (fun i=>b i) (b false)) else Afh N c a (a==4) d e f g h (fun j=>b j) (b false)
def An1:A9i:=@Bwb @Afh
def Dd0(N:Nat):Aas Bwa [Bab]:=fun R x C=>An1 N x.1.1.1 x.1.1.2.1 x.1.1.2.2.1 x.1.1.2.2.2.1 x.1.1.2.2.2.2.1 x.1.2.1 x.1.2.2.1 (fun y0=>C.1 ((y0,()),(())))
def Cem(An1:A9i)(N:Nat):Go.AX.Aad:=Aaz [true,true,true] [] false 3 0 Bwa [Bab] (fun R x C=>An1 N x.1.1.1 x.1.1.2.1 x.1.1.2.2.1 x.1.1.2.2.2.1 x.1.1.2.2.2.2.1 x.1.2.1 x.1.2.2.1 (fun y0=>C.1 ((y0,()),(()))))
def Cen(N:Nat):Go.AX.Aad:=Cem @An1 N
def Dd1(N:Nat):List (Nat×Aa6):=[(24,Aab Ama (Byb N)),(18,Aab Amb (Byd N)),(12,Aab Amc (Byf N))]
def Cyh(N:Nat):List (Nat×Go.AX.Aad):=[]
def A5d:Aac:=⟨[wq1,(1,.agg C87)],Csy⟩
def Ast:Aac:=⟨Amm,Csy⟩
abbrev B7f(R:Type):=Int->Int->Int->Int->Int->(List UInt8)->d4->d2->d3->d5->(Bool->(List UInt8)->d4->d2->d3->d5->Option R)->Option R
abbrev Aq1:={R:Type}→Nat→B7f R
def A5e(An1:A9i):Aq1:=fun {R} N j f g l m a b c d e h=>An1 N a b c d e f g fun i=>h i a b c d e
def Ahj:Aq1:=@A5e @An1
def C49(N:Nat):Aas A5d [Ast]:=fun R x C=>Ahj N x.1.2.1.1 x.1.2.1.2.1 x.1.2.1.2.2.1 x.1.2.1.2.2.2.1 x.1.2.1.2.2.2.2.1 x.2.1.1 x.2.1.2.1 x.2.1.2.2.1 x.2.1.2.2.2.1 x.2.1.2.2.2.2.1 (fun y0 y1 y2 y3 y4 y5=>C.1 ((y0,()),((y1,y2,y3,y4,y5,(),()),((),(),(),(),(),(),(),(),(),(),(),(),(),(),(),(),(),(),(),(),(),(),(),(),(),(),(),(),(),(),(),(),(),(),()),((),()),((),()),())))
def Bjn(Ahj:Aq1)(N:Nat):Go.AX.Aad:=Aaz [false,true] [] false 2 4 A5d [Ast] (fun R x C=>Ahj N x.1.2.1.1 x.1.2.1.2.1 x.1.2.1.2.2.1 x.1.2.1.2.2.2.1 x.1.2.1.2.2.2.2.1 x.2.1.1 x.2.1.2.1 x.2.1.2.2.1 x.2.1.2.2.2.1 x.2.1.2.2.2.2.1 (fun y0 y1 y2 y3 y4 y5=>C.1 ((y0,()),((y1,y2,y3,y4,y5,(),()),((),(),(),(),(),(),(),(),(),(),(),(),(),(),(),(),(),(),(),(),(),(),(),(),(),(),(),(),(),(),(),(),(),(),()),((),()),((),()),()))))
def Bjo(N:Nat):Go.AX.Aad:=Bjn @Ahj N
def C5a(N:Nat):List (Nat×Aa6):=[]
def B7g(N:Nat):List (Nat×Go.AX.Aad):=[(135,Cen N)]
def Bhl:Aac:=⟨Cjh,Bul⟩
def A04:Aac:=⟨Amm,Bul⟩
abbrev Cmx(R:Type):=Int->Int->Int->Int->Int->(List UInt8)->d4->d2->d3->d5->(Bool->(List UInt8)->d4->d2->d3->d5->Option R)->Option R
abbrev An2:={R:Type}→Nat→Cmx R
def Bhm(Ahj:Aq1):An2:=fun {R} N h i j a l m n o p q b=>Ahj N h i j a l m n o p q fun r c d e f g=>if (r=true) then (b (a==0) c d e f g) else b false c d e f g
def Abd:An2:=@Bhm @Ahj
def Dah(N:Nat):Aas Bhl [A04]:=fun R x C=>Abd N x.1.1.1 x.1.1.2.1 x.1.1.2.2.1 x.1.1.2.2.2.1 x.1.1.2.2.2.2.1 x.2.2.1.1 x.2.2.1.2.1 x.2.2.1.2.2.1 x.2.2.1.2.2.2.1 x.2.2.1.2.2.2.2.1 (fun y0 y1 y2 y3 y4 y5=>C.1 ((y0,()),(((),()),(y1,y2,y3,y4,y5,(),()),((),(),(),(),(),(),(),(),(),(),(),(),(),(),(),(),(),(),(),(),(),(),(),(),(),(),(),(),(),(),(),(),(),(),()),((),()),())))
def A7o(Abd:An2)(N:Nat):Go.AX.Aad:=Aaz [true] [] false 2 4 Bhl [A04] (fun R x C=>Abd N x.1.1.1 x.1.1.2.1 x.1.1.2.2.1 x.1.1.2.2.2.1 x.1.1.2.2.2.2.1 x.2.2.1.1 x.2.2.1.2.1 x.2.2.1.2.2.1 x.2.2.1.2.2.2.1 x.2.2.1.2.2.2.2.1 (fun y0 y1 y2 y3 y4 y5=>C.1 ((y0,()),(((),()),(y1,y2,y3,y4,y5,(),()),((),(),(),(),(),(),(),(),(),(),(),(),(),(),(),(),(),(),(),(),(),(),(),(),(),(),(),(),(),(),(),(),(),(),()),((),()),()))))
def Bhn(N:Nat):Go.AX.Aad:=A7o @Abd N
def Dai(N:Nat):List (Nat×Aa6):=[]
def Cmy(N:Nat):List (Nat×Go.AX.Aad):=[(80,Bjo N)]
def Byg:Code:=Tryz.f81.body.getD .skip
def Bjp:Code:=Tryz.f82.body.getD .skip
def A5f:Aac:=⟨B03,Csy⟩
def Asu:Aac:=⟨Amm,Csy⟩
abbrev B7h(R:Type):=Int->(List UInt8)->d4->d2->d3->d5->(Bool->(List UInt8)->d4->d2->d3->d5->Option R)->Option R
abbrev Aj0:={R:Type}→Nat→B7h R
def Abr:Aj0:=fun {R} N b c d e f a g=>if ((decide (b≥0))=true) then (if ((decide (b<(len a)))=true) then (if (0≤b∧b<len a) then (g ((a.getD b.toNat (0,(0,(0,(0,0))))).1 != 15) c d e f a) else none) else g false c d e f a) else g false c d e f a
def B7i(N:Nat):Aas A5f [Asu]:=fun R x C=>Abr N x.1.2.1 x.2.1.1 x.2.1.2.1 x.2.1.2.2.1 x.2.1.2.2.2.1 x.2.1.2.2.2.2.1 (fun y0 y1 y2 y3 y4 y5=>C.1 ((y0,()),((y1,y2,y3,y4,y5,(),()),((),(),(),(),(),(),(),(),(),(),(),(),(),(),(),(),(),(),(),(),(),(),(),(),(),(),(),(),(),(),(),(),(),(),()),((),()),((),()),())))
def Axh(Abr:Aj0)(N:Nat):Go.AX.Aad:=Aaz [false,true] [] false 2 4 A5f [Asu] (fun R x C=>Abr N x.1.2.1 x.2.1.1 x.2.1.2.1 x.2.1.2.2.1 x.2.1.2.2.2.1 x.2.1.2.2.2.2.1 (fun y0 y1 y2 y3 y4 y5=>C.1 ((y0,()),((y1,y2,y3,y4,y5,(),()),((),(),(),(),(),(),(),(),(),(),(),(),(),(),(),(),(),(),(),(),(),(),(),(),(),(),(),(),(),(),(),(),(),(),()),((),()),((),()),()))))
def Axi(N:Nat):Go.AX.Aad:=Axh @Abr N
def B7j(N:Nat):List (Nat×Aa6):=[]
def Bjq(N:Nat):List (Nat×Go.AX.Aad):=[]
def Bho:Aac:=⟨Cjh,Bul⟩
def A05:Aac:=⟨Amm,Bul⟩
abbrev Cmz(R:Type):=Int->Int->Int->Int->Int->(List UInt8)->d4->d2->d3->d5->(Bool->(List UInt8)->d4->d2->d3->d5->Option R)->Option R
abbrev At8:={R:Type}→Nat→Cmz R
def Bhp(Abr:Aj0):At8:=fun {R} N q g h i r a b c d e f=>if ((g==0)=true) then (if ((i==0)=true) then (Abr N h a b c d e fun j l m n o p=>f j l m n o p) else f false a b c d e) else f false a b c d e
def Afz:At8:=@Bhp @Abr
def Daj(N:Nat):Aas Bho [A05]:=fun R x C=>Afz N x.1.1.1 x.1.1.2.1 x.1.1.2.2.1 x.1.1.2.2.2.1 x.1.1.2.2.2.2.1 x.2.2.1.1 x.2.2.1.2.1 x.2.2.1.2.2.1 x.2.2.1.2.2.2.1 x.2.2.1.2.2.2.2.1 (fun y0 y1 y2 y3 y4 y5=>C.1 ((y0,()),(((),()),(y1,y2,y3,y4,y5,(),()),((),(),(),(),(),(),(),(),(),(),(),(),(),(),(),(),(),(),(),(),(),(),(),(),(),(),(),(),(),(),(),(),(),(),()),((),()),())))
def Bhq(Afz:At8)(N:Nat):Go.AX.Aad:=Aaz [true] [] false 2 4 Bho [A05] (fun R x C=>Afz N x.1.1.1 x.1.1.2.1 x.1.1.2.2.1 x.1.1.2.2.2.1 x.1.1.2.2.2.2.1 x.2.2.1.1 x.2.2.1.2.1 x.2.2.1.2.2.1 x.2.2.1.2.2.2.1 x.2.2.1.2.2.2.2.1 (fun y0 y1 y2 y3 y4 y5=>C.1 ((y0,()),(((),()),(y1,y2,y3,y4,y5,(),()),((),(),(),(),(),(),(),(),(),(),(),(),(),(),(),(),(),(),(),(),(),(),(),(),(),(),(),(),(),(),(),(),(),(),()),((),()),()))))
def Byh(N:Nat):Go.AX.Aad:=Bhq @Afz N
def Dak(N:Nat):List (Nat×Aa6):=[]
def Cm0(N:Nat):List (Nat×Go.AX.Aad):=[(82,Axi N)]
def Byi:Code:=Tryz.f83.body.getD .skip
def Bhr:Aac:=⟨Cjh,[(0,.cells 69 [(.fnp 79 [1])]),(1,.cells 67 [(.ptr 2)]),(2,.cells 72 [(.val .str),(.val z3),(.val z1),(.val z4),(.val z6),(.mp 3)]),(3,.fmap 70 .i64 [(3:Int),(4:Int),(5:Int),(13:Int),(38:Int),(39:Int),(1:Int),(6:Int),(7:Int),(8:Int),(21:Int),(22:Int),(23:Int),(24:Int),(25:Int),(26:Int),(27:Int),(28:Int),(29:Int),(30:Int),(31:Int),(32:Int),(33:Int),(34:Int),(35:Int),(36:Int),(37:Int),(9:Int),(10:Int),(11:Int),(2:Int),(12:Int),(14:Int),(15:Int)] [(.fn 78),(.fn 78),(.fn 78),(.fn 78),(.fn 78),(.fn 78),(.fnp 79 [1]),(.fnp 79 [1]),(.fnp 79 [1]),(.fnp 79 [1]),(.fnp 79 [1]),(.fnp 79 [1]),(.fnp 79 [1]),(.fnp 79 [1]),(.fnp 79 [1]),(.fnp 79 [1]),(.fnp 79 [1]),(.fnp 79 [1]),(.fnp 79 [1]),(.fnp 79 [1]),(.fnp 79 [1]),(.fnp 79 [1]),(.fnp 79 [1]),(.fnp 79 [1]),(.fnp 79 [1]),(.fnp 79 [1]),(.fnp 79 [1]),(.fnp 81 [1]),(.fnp 81 [1]),(.fnp 81 [1]),(.fnp 83 [0]),(.fn 84),(.fnp 85 [1]),(.fnp 86 [1])])]⟩
def A06:Aac:=⟨Amm,[(0,.cells 69 [(.fnp 79 [1])]),(1,.cells 67 [(.ptr 2)]),(2,.cells 72 [(.val .str),(.val z3),(.val z1),(.val z4),(.val z6),(.mp 3)]),(3,.fmap 70 .i64 [(3:Int),(4:Int),(5:Int),(13:Int),(38:Int),(39:Int),(1:Int),(6:Int),(7:Int),(8:Int),(21:Int),(22:Int),(23:Int),(24:Int),(25:Int),(26:Int),(27:Int),(28:Int),(29:Int),(30:Int),(31:Int),(32:Int),(33:Int),(34:Int),(35:Int),(36:Int),(37:Int),(9:Int),(10:Int),(11:Int),(2:Int),(12:Int),(14:Int),(15:Int)] [(.fn 78),(.fn 78),(.fn 78),(.fn 78),(.fn 78),(.fn 78),(.fnp 79 [1]),(.fnp 79 [1]),(.fnp 79 [1]),(.fnp 79 [1]),(.fnp 79 [1]),(.fnp 79 [1]),(.fnp 79 [1]),(.fnp 79 [1]),(.fnp 79 [1]),(.fnp 79 [1]),(.fnp 79 [1]),(.fnp 79 [1]),(.fnp 79 [1]),(.fnp 79 [1]),(.fnp 79 [1]),(.fnp 79 [1]),(.fnp 79 [1]),(.fnp 79 [1]),(.fnp 79 [1]),(.fnp 79 [1]),(.fnp 79 [1]),(.fnp 81 [1]),(.fnp 81 [1]),(.fnp 81 [1]),(.fnp 83 [0]),(.fn 84),(.fnp 85 [1]),(.fnp 86 [1])])]⟩
abbrev Cm1(R:Type):=Int->Int->Int->Int->Int->(List UInt8)->d4->d2->d3->d5->(Bool->(List UInt8)->d4->d2->d3->d5->Option R)->Option R
abbrev At9:={R:Type}→Nat→Cm1 R
def Bhs(Abd:An2):At9:=fun {R} N h a i j l m n o p q b=>Abd N h a i j l m n o p q fun r c d e f g=>if (r=true) then (if ((decide (a≥1))=true) then (b (decide (a≤3)) c d e f g) else b false c d e f g) else b false c d e f g
def Agy:At9:=@Bhs @Abd
def Dal(N:Nat):Aas Bhr [A06]:=fun R x C=>Agy N x.1.1.1 x.1.1.2.1 x.1.1.2.2.1 x.1.1.2.2.2.1 x.1.1.2.2.2.2.1 x.2.2.2.1.1 x.2.2.2.1.2.1 x.2.2.2.1.2.2.1 x.2.2.2.1.2.2.2.1 x.2.2.2.1.2.2.2.2.1 (fun y0 y1 y2 y3 y4 y5=>C.1 ((y0,()),(((),()),((),()),(y1,y2,y3,y4,y5,(),()),((),(),(),(),(),(),(),(),(),(),(),(),(),(),(),(),(),(),(),(),(),(),(),(),(),(),(),(),(),(),(),(),(),(),()),())))
def Bht(Agy:At9)(N:Nat):Go.AX.Aad:=Aaz [true] [] false 2 4 Bhr [A06] (fun R x C=>Agy N x.1.1.1 x.1.1.2.1 x.1.1.2.2.1 x.1.1.2.2.2.1 x.1.1.2.2.2.2.1 x.2.2.2.1.1 x.2.2.2.1.2.1 x.2.2.2.1.2.2.1 x.2.2.2.1.2.2.2.1 x.2.2.2.1.2.2.2.2.1 (fun y0 y1 y2 y3 y4 y5=>C.1 ((y0,()),(((),()),((),()),(y1,y2,y3,y4,y5,(),()),((),(),(),(),(),(),(),(),(),(),(),(),(),(),(),(),(),(),(),(),(),(),(),(),(),(),(),(),(),(),(),(),(),(),()),()))))
def Byj(N:Nat):Go.AX.Aad:=Bht @Agy N
def Dam(N:Nat):List (Nat×Aa6):=[]
def Cm2(N:Nat):List (Nat×Go.AX.Aad):=[(79,Bhn N)]
def Byk:Code:=Tryz.f84.body.getD .skip
def Bhu:Aac:=⟨Csw,[]⟩
def A07:Aac:=⟨Amm,[]⟩
abbrev Cm3(R:Type):=Int->Int->Int->Int->Int->(Bool->Option R)->Option R
abbrev Azq:={R:Type}→Nat→Cm3 R
def Agz:Azq:=fun {R} N e c b d f a=>if ((c==0)=true) then (if ((d==0)=true) then (if ((decide (b≥0))=true) then (a (decide (b≤4000))) else a false) else a false) else a false
def Cm4(N:Nat):Aas Bhu [A07]:=fun R x C=>Agz N x.1.1.1 x.1.1.2.1 x.1.1.2.2.1 x.1.1.2.2.2.1 x.1.1.2.2.2.2.1 (fun y0=>C.1 ((y0,()),(())))
def Bhv(Agz:Azq)(N:Nat):Go.AX.Aad:=Aaz [true] [] false 1 0 Bhu [A07] (fun R x C=>Agz N x.1.1.1 x.1.1.2.1 x.1.1.2.2.1 x.1.1.2.2.2.1 x.1.1.2.2.2.2.1 (fun y0=>C.1 ((y0,()),(()))))
def Byl(N:Nat):Go.AX.Aad:=Bhv @Agz N
def Cm5(N:Nat):List (Nat×Aa6):=[]
def Bym(N:Nat):List (Nat×Go.AX.Aad):=[]
def Byn:Code:=Tryz.f85.body.getD .skip
def Bhw:Aac:=⟨Cjh,Bul⟩
def A08:Aac:=⟨Amm,Bul⟩
abbrev Cm6(R:Type):=Int->Int->Int->Int->Int->(List UInt8)->d4->d2->d3->d5->(Bool->(List UInt8)->d4->d2->d3->d5->Option R)->Option R
abbrev Aua:={R:Type}→Nat→Cm6 R
def Bhx(Abr:Aj0):Aua:=fun {R} N q h g i r a b c d e f=>if ((h==0)=true) then (if ((decide (g≥0))=true) then (if ((decide (g≤1000))=true) then (Abr N i a b c d e fun j l m n o p=>f j l m n o p) else f false a b c d e) else f false a b c d e) else f false a b c d e
def Ag0:Aua:=@Bhx @Abr
def Dan(N:Nat):Aas Bhw [A08]:=fun R x C=>Ag0 N x.1.1.1 x.1.1.2.1 x.1.1.2.2.1 x.1.1.2.2.2.1 x.1.1.2.2.2.2.1 x.2.2.1.1 x.2.2.1.2.1 x.2.2.1.2.2.1 x.2.2.1.2.2.2.1 x.2.2.1.2.2.2.2.1 (fun y0 y1 y2 y3 y4 y5=>C.1 ((y0,()),(((),()),(y1,y2,y3,y4,y5,(),()),((),(),(),(),(),(),(),(),(),(),(),(),(),(),(),(),(),(),(),(),(),(),(),(),(),(),(),(),(),(),(),(),(),(),()),((),()),())))
def Bhy(Ag0:Aua)(N:Nat):Go.AX.Aad:=Aaz [true] [] false 2 4 Bhw [A08] (fun R x C=>Ag0 N x.1.1.1 x.1.1.2.1 x.1.1.2.2.1 x.1.1.2.2.2.1 x.1.1.2.2.2.2.1 x.2.2.1.1 x.2.2.1.2.1 x.2.2.1.2.2.1 x.2.2.1.2.2.2.1 x.2.2.1.2.2.2.2.1 (fun y0 y1 y2 y3 y4 y5=>C.1 ((y0,()),(((),()),(y1,y2,y3,y4,y5,(),()),((),(),(),(),(),(),(),(),(),(),(),(),(),(),(),(),(),(),(),(),(),(),(),(),(),(),(),(),(),(),(),(),(),(),()),((),()),()))))
def Byo(N:Nat):Go.AX.Aad:=Bhy @Ag0 N
def Dao(N:Nat):List (Nat×Aa6):=[]
def Cm7(N:Nat):List (Nat×Go.AX.Aad):=[(82,Axi N)]
def Byp:Code:=Tryz.f86.body.getD .skip
def Bhz:Aac:=⟨Cjh,Bul⟩
def A09:Aac:=⟨Amm,Bul⟩
abbrev Cm8(R:Type):=Int->Int->Int->Int->Int->(List UInt8)->d4->d2->d3->d5->(Bool->(List UInt8)->d4->d2->d3->d5->Option R)->Option R
abbrev Aub:={R:Type}→Nat→Cm8 R
def Bh0(Abr:Aj0):Aub:=fun {R} N q h g i r a b c d e f=>if ((h==0)=true) then (if ((decide (g≥(-2147483648)))=true) then (if ((decide (g≤2147483647))=true) then (Abr N i a b c d e fun j l m n o p=>f j l m n o p) else f false a b c d e) else f false a b c d e) else f false a b c d e
def Ag1:Aub:=@Bh0 @Abr
def Dap(N:Nat):Aas Bhz [A09]:=fun R x C=>Ag1 N x.1.1.1 x.1.1.2.1 x.1.1.2.2.1 x.1.1.2.2.2.1 x.1.1.2.2.2.2.1 x.2.2.1.1 x.2.2.1.2.1 x.2.2.1.2.2.1 x.2.2.1.2.2.2.1 x.2.2.1.2.2.2.2.1 (fun y0 y1 y2 y3 y4 y5=>C.1 ((y0,()),(((),()),(y1,y2,y3,y4,y5,(),()),((),(),(),(),(),(),(),(),(),(),(),(),(),(),(),(),(),(),(),(),(),(),(),(),(),(),(),(),(),(),(),(),(),(),()),((),()),())))
def Bh1(Ag1:Aub)(N:Nat):Go.AX.Aad:=Aaz [true] [] false 2 4 Bhz [A09] (fun R x C=>Ag1 N x.1.1.1 x.1.1.2.1 x.1.1.2.2.1 x.1.1.2.2.2.1 x.1.1.2.2.2.2.1 x.2.2.1.1 x.2.2.1.2.1 x.2.2.1.2.2.1 x.2.2.1.2.2.2.1 x.2.2.1.2.2.2.2.1 (fun y0 y1 y2 y3 y4 y5=>C.1 ((y0,()),(((),()),(y1,y2,y3,y4,y5,(),()),((),(),(),(),(),(),(),(),(),(),(),(),(),(),(),(),(),(),(),(),(),(),(),(),(),(),(),(),(),(),(),(),(),(),()),((),()),()))))
def Byq(N:Nat):Go.AX.Aad:=Bh1 @Ag1 N
def Daq(N:Nat):List (Nat×Aa6):=[]
def Cm9(N:Nat):List (Nat×Go.AX.Aad):=[(82,Axi N)]
def Alf:Aac:=⟨[wq5,Cma,(5,.one (.ptr 33)),(20,.one (.val z6)),(21,.one wq0),(22,.one wq0)],[Cve,(33,.cells 72 [(.val .str),(.val z3),(.val z1),(.val z4),(.val z6),(.mp 34)]),(34,.fmap 70 .i64 [(3:Int),(4:Int),(5:Int),(13:Int),(38:Int),(39:Int),(1:Int),(6:Int),(7:Int),(8:Int),(21:Int),(22:Int),(23:Int),(24:Int),(25:Int),(26:Int),(27:Int),(28:Int),(29:Int),(30:Int),(31:Int),(32:Int),(33:Int),(34:Int),(35:Int),(36:Int),(37:Int),(9:Int),(10:Int),(11:Int),(2:Int),(12:Int),(14:Int),(15:Int)] [(.fn 78),(.fn 78),(.fn 78),(.fn 78),(.fn 78),(.fn 78),(.fnp 79 [35]),(.fnp 79 [35]),(.fnp 79 [35]),(.fnp 79 [35]),(.fnp 79 [35]),(.fnp 79 [35]),(.fnp 79 [35]),(.fnp 79 [35]),(.fnp 79 [35]),(.fnp 79 [35]),(.fnp 79 [35]),(.fnp 79 [35]),(.fnp 79 [35]),(.fnp 79 [35]),(.fnp 79 [35]),(.fnp 79 [35]),(.fnp 79 [35]),(.fnp 79 [35]),(.fnp 79 [35]),(.fnp 79 [35]),(.fnp 79 [35]),(.fnp 81 [35]),(.fnp 81 [35]),(.fnp 81 [35]),(.fnp 83 [36]),(.fn 84),(.fnp 85 [35]),(.fnp 86 [35])]),(35,.cells 67 [(.ptr 33)]),(36,.cells 69 [(.fnp 79 [35])])]⟩
def Ayx:Aac:=⟨Cvc,[]⟩
def Ayy:Aac:=⟨[wq5,Cma],Cvf⟩
def Bu5:Afc:=.cons .ret Ayx (.cons (.exit 0) Ayy (.nil))
abbrev Bd2(R:Type):=Bool->d5->Int->Int->(List UInt8)->d4->d2->d3->d5->(List UInt8)->d4->d2->d3->d5->(Int->Option R)->(Bool->(List UInt8)->d4->d2->d3->d5->Option R)->Option R
abbrev Bd3(R:Type):=Bool->d5->Int->Int->(List UInt8)->d4->d2->d3->d5->(List UInt8)->d4->d2->d3->d5->Option R
abbrev A33:={R:Type}→Nat→Nat→Bd2 R
def Axj(Aez:Azm)(Abd:An2)(Afz:At8)(Agy:At9)(Agz:Azq)(Ag0:Aua)(Ag1:Aub){R:Type}(N:Nat)(rc:Bd3 R):Bd2 R:=fun f e g d h i j l m n o p q r a v=>if ((decide (d<g))=true) then (if (0≤d∧d<len e) then (let b:=(e.getD d.toNat (0,(0,(0,(0,0))))).1;let s:=(e.getD d.toNat (0,(0,(0,(0,0))))).2.1;let t:=(e.getD d.toNat (0,(0,(0,(0,0))))).2.2.1;let u:=(e.getD d.toNat (0,(0,(0,(0,0))))).2.2.2.1;let c:=(e.getD d.toNat (0,(0,(0,(0,0))))).2.2.2.2;if (b=3) then (if ((c != 0)=true) then (a 60) else Aez N b s t u c fun w=>if ((!w)=true) then (a 60) else rc f e g (wi (d+1)) h i j l m n o p q r) else if (b=4) then (if ((c != 0)=true) then (a 60) else Aez N b s t u c fun x=>if ((!x)=true) then (a 60) else rc f e g (wi (d+1)) h i j l m n o p q r) else if (b=5) then (if ((c != 0)=true) then (a 60) else Aez N b s t u c fun y=>if ((!y)=true) then (a 60) else rc f e g (wi (d+1)) h i j l m n o p q r) else if (b=13) then (if ((c != 0)=true) then (a 60) else Aez N b s t u c fun z=>if ((!z)=true) then (a 60) else rc f e g (wi (d+1)) h i j l m n o p q r) else if (b=38) then (if ((c != 0)=true) then (a 60) else Aez N b s t u c fun A=>if ((!A)=true) then (a 60) else rc f e g (wi (d+1)) h i j l m n o p q r) else if (b=39) then (if ((c != 0)=true) then (a 60) else Aez N b s t u c fun B=>if ((!B)=true) then (a 60) else rc f e g (wi (d+1)) h i j l m n o p q r) else if (b=1) then (if ((c != 0)=true) then (a 60) else Abd N b s t u c n o p q r fun C D E F G H=>if ((!C)=true) then (a 60) else rc f e g (wi (d+1)) h i j l m D E F G H) else if (b=6) then (if ((c != 0)=true) then (a 60) else Abd N b s t u c n o p q r fun I J L M O P=>if ((!I)=true) then (a 60) else rc f e g (wi (d+1)) h i j l m J L M O P) else if (b=7) then (if ((c != 0)=true) then (a 60) else Abd N b s t u c n o p q r fun Q S T U V W=>if ((!Q)=true) then (a 60) else rc f e g (wi (d+1)) h i j l m S T U V W) else if (b=8) then (if ((c != 0)=true) then (a 60) else Abd N b s t u c n o p q r fun X Y Z aa ab ac=>if ((!X)=true) then (a 60) else rc f e g (wi (d+1)) h i j l m Y Z aa ab ac) else if (b=21) then (if ((c != 0)=true) then (a 60) else Abd N b s t u c n o p q r fun ad ae af ag ah ai=>if ((!ad)=true) then (a 60) else rc f e g (wi (d+1)) h i j l m ae af ag ah ai) else if (b=22) then (if ((c != 0)=true) then (a 60) else Abd N b s t u c n o p q r fun aj ak al am an ao=>if ((!aj)=true) then (a 60) else rc f e g (wi (d+1)) h i j l m ak al am an ao) else if (b=23) then (if ((c != 0)=true) then (a 60) else Abd N b s t u c n o p q r fun ap aq ar au av aw=>if ((!ap)=true) then (a 60) else rc f e g (wi (d+1)) h i j l m aq ar au av aw) else if (b=24) then (if ((c != 0)=true) then (a 60) else Abd N b s t u c n o p q r fun ax ay az ba bb bc=>if ((!ax)=true) then (a 60) else rc f e g (wi (d+1)) h i j l m ay az ba bb bc) else if (b=25) then (if ((c != 0)=true) then (a 60) else Abd N b s t u c n o p q r fun bd be bf bg bh bi=>if ((!bd)=true) then (a 60) else rc f e g (wi (d+1)) h i j l m be bf bg bh bi) else if (b=26) then (if ((c != 0)=true) then (a 60) else Abd N b s t u c n o p q r fun bj bk bl bm bn bo=>if ((!bj)=true) then (a 60) else rc f e g (wi (d+1)) h i j l m bk bl bm bn bo) else if (b=27) then (if ((c != 0)=true) then (a 60) else Abd N b s t u c n o p q r fun bp bq br bs bt bu=>if ((!bp)=true) then (a 60) else rc f e g (wi (d+1)) h i j l m bq br bs bt bu) else if (b=28) then (if ((c != 0)=true) then (a 60) else Abd N b s t u c n o p q r fun bv bw bx bz ca cb=>if ((!bv)=true) then (a 60) else rc f e g (wi (d+1)) h i j l m bw bx bz ca cb) else if (b=29) then (if ((c != 0)=true) then (a 60) else Abd N b s t u c n o p q r fun cc cd ce cf cg ch=>if ((!cc)=true) then (a 60) else rc f e g (wi (d+1)) h i j l m cd ce cf cg ch) else if (b=30) then (if ((c != 0)=true) then (a 60) else Abd N b s t u c n o p q r fun ci cj ck cl cm cn=>if ((!ci)=true) then (a 60) else rc f e g (wi (d+1)) h i j l m cj ck cl cm cn) else if (b=31) then (if ((c != 0)=true) then (a 60) else Abd N b s t u c n o p q r fun co cp cq cr cs ct=>if ((!co)=true) then (a 60) else rc f e g (wi (d+1)) h i j l m cp cq cr cs ct) else if (b=32) then (if ((c != 0)=true) then (a 60) else Abd N b s t u c n o p q r fun cu cv cw cx cy cz=>if ((!cu)=true) then (a 60) else rc f e g (wi (d+1)) h i j l m cv cw cx cy cz) else if (b=33) then (if ((c != 0)=true) then (a 60) else Abd N b s t u c n o p q r fun da db dc dd de df=>if ((!da)=true) then (a 60) else rc f e g (wi (d+1)) h i j l m db dc dd de df) else if (b=34) then (if ((c != 0)=true) then (a 60) else Abd N b s t u c n o p q r fun dg dh di dj dk dl=>if ((!dg)=true) then (a 60) else rc f e g (wi (d+1)) h i j l m dh di dj dk dl) else if (b=35) then (if ((c != 0)=true) then (a 60) else Abd N b s t u c n o p q r fun dm dn dp dq dr ds=>if ((!dm)=true) then (a 60) else rc f e g (wi (d+1)) h i j l m dn dp dq dr ds) else if (b=36) then (if ((c != 0)=true) then (a 60) else Abd N b s t u c n o p q r fun dt du dv dw dx dy=>if ((!dt)=true) then (a 60) else rc f e g (wi (d+1)) h i j l m du dv dw dx dy) else if (b=37) then (if ((c != 0)=true) then (a 60) else Abd N b s t u c n o p q r fun dz ea eb ec ed ee=>if ((!dz)=true) then (a 60) else rc f e g (wi (d+1)) h i j l m ea eb ec ed ee) else if (b=9) then (if ((c != 0)=true) then (a 60) else Afz N b s t u c n o p q r fun ef eg eh ei ej ek=>if ((!ef)=true) then (a 60) else rc f e g (wi (d+1)) h i j l m eg eh ei ej ek) else if (b=10) then (if ((c != 0)=true) then (a 60) else Afz N b s t u c n o p q r fun el em en eo ep eq=>if ((!el)=true) then (a 60) else rc f e g (wi (d+1)) h i j l m em en eo ep eq) else if (b=11) then (if ((c != 0)=true) then (a 60) else Afz N b s t u c n o p q r fun er es et eu ev ew=>if ((!er)=true) then (a 60) else rc f e g (wi (d+1)) h i j l m es et eu ev ew) else if (b=2) then (if ((c != 0)=true) then (a 60) else Agy N b s t u c n o p q r fun ex ey ez fa fb fc=>if ((!ex)=true) then (a 60) else rc f e g (wi (d+1)) h i j l m ey ez fa fb fc) else if (b=12) then (if ((c != 0)=true) then (a 60) else Agz N b s t u c fun fd=>if ((!fd)=true) then (a 60) else rc f e g (wi (d+1)) h i j l m n o p q r) else if (b=14) then (if ((c != 0)=true) then (a 60) else Ag0 N b s t u c n o p q r fun fe ff fg fh fi fj=>if ((!fe)=true) then (a 60) else rc f e g (wi (d+1)) h i j l m ff fg fh fi fj) else if (b=15) then (if ((c != 0)=true) then (a 60) else Ag1 N b s t u c n o p q r fun fk fl fm fn fo fp=>if ((!fk)=true) then (a 60) else rc f e g (wi (d+1)) h i j l m fl fm fn fo fp) else a 60) else none) else v f h i j l m
def Afv{R:Type}(N:Nat):Nat→Bd2 R
 |0=>fun _ _ _ _ _ _ _ _ _ _ _ _ _ _ _ _=>none
 |k+1=>fun a b c d e f g h i j l m n o p q=>Axj @Aez @Abd @Afz @Agy @Agz @Ag0 @Ag1 N (fun a b c d e f g h i j l m n o=>Afv N k a b c d e f g h i j l m n o p q) a b c d e f g h i j l m n o p q
def Bd4(Afv:A33)(N k:Nat):Aa7 Alf:=fun R x K=>Afv N k x.1.2.1 x.1.2.2.2.1 x.1.2.2.2.2.1 x.1.2.2.2.2.2.1 x.2.1.1 x.2.1.2.1 x.2.1.2.2.1 x.2.1.2.2.2.1 x.2.1.2.2.2.2.1 x.2.2.1.1 x.2.2.1.2.1 x.2.2.1.2.2.1 x.2.2.1.2.2.2.1 x.2.2.1.2.2.2.2.1 (fun y0=>K .ret (Aaf Ayx ((y0,()),(())))) (fun y0 y1 y2 y3 y4 y5=>K (.exit 0) (Aaf Ayy (((),y0,()),((y1,y2,y3,y4,y5,()),()))))
def Bd5(N k:Nat):Aa7 Alf:=Bd4 @Afv N k
def Ah5:Code:=Tryz.f43.body.getD .skip
def Byr:Code:=Tryz.f44.body.getD .skip
def Bh2:Aac:=⟨Csw,[]⟩
def A1a:Aac:=⟨Afp,[]⟩
abbrev Cna(R:Type):=Int->Int->Int->Int->Int->(Int->Option R)->Option R
abbrev Auc:={R:Type}→Nat→Cna R
def Agj:Auc:=fun {R} N c d a e f b=>b a
def Cnb(N:Nat):Aas Bh2 [A1a]:=fun R x C=>Agj N x.1.1.1 x.1.1.2.1 x.1.1.2.2.1 x.1.1.2.2.2.1 x.1.1.2.2.2.2.1 (fun y0=>C.1 ((y0,()),(())))
def A7p(Agj:Auc)(N:Nat):Go.AX.Aad:=Aaz [true] [] false 1 0 Bh2 [A1a] (fun R x C=>Agj N x.1.1.1 x.1.1.2.1 x.1.1.2.2.1 x.1.1.2.2.2.1 x.1.1.2.2.2.2.1 (fun y0=>C.1 ((y0,()),(()))))
def Bys(N:Nat):Go.AX.Aad:=A7p @Agj N
def Cnc(N:Nat):List (Nat×Aa6):=[]
def Byt(N:Nat):List (Nat×Go.AX.Aad):=[]
def Ah1:Aac:=⟨[Cl9,Aim,Aui,wq3,Bqb,B64,(32,.one wq0),(33,.one wq0)],[]⟩
def Asv:Aac:=⟨C2a,[]⟩
def Asw:Aac:=⟨[Cl9,Aim,Aui,wq3,Bqb,B64],[]⟩
def Bjr:Afc:=.cons .ret Asv (.cons (.exit 3) Asw (.nil))
abbrev A5g(R:Type):=d5->Int->Int->Int->Int->Int->Int->(Bool->Option R)->(d5->Int->Int->Int->Int->Option R)->Option R
abbrev Bjs(R:Type):=d5->Int->Int->Int->Int->Int->Int->Option R
abbrev Aq2:={R:Type}→Nat→Nat→A5g R
def Axk{R:Type}(N:Nat)(rc:Bjs R):A5g R:=fun a f c d g h e i j=>if ((decide (e<h))=true) then (let b:=(wi ((wi (d+1))+e));if ((decide (b≥(len a)))=true) then (i false) else if (0≤b∧b<len a) then (if (((a.getD b.toNat (0,(0,(0,(0,0))))).1 != c)=true) then (i false) else rc a f c d g h (wi (e+1))) else none) else j a f c d g
def Acz{R:Type}(N:Nat):Nat→A5g R
 |0=>fun _ _ _ _ _ _ _ _ _=>none
 |k+1=>fun a b c d e f g h i=>Axk N (fun a b c d e f g=>Acz N k a b c d e f g h i) a b c d e f g h i
def Axl(Acz:Aq2)(N k:Nat):Aa7 Ah1:=fun R x K=>Acz N k x.1.1 x.1.2.1 x.1.2.2.1 x.1.2.2.2.2.1 x.1.2.2.2.2.2.1 x.1.2.2.2.2.2.2.1 x.1.2.2.2.2.2.2.2.1 (fun y0=>K .ret (Aaf Asv ((y0,()),(())))) (fun y0 y1 y2 y3 y4=>K (.exit 3) (Aaf Asw ((y0,y1,y2,(),y3,y4,()),(()))))
def A5h(N k:Nat):Aa7 Ah1:=Axl @Acz N k
def Aii:Aac:=⟨[Cl9,Aim,Aui,wq3,Bqb],[]⟩
def Avm:Aac:=⟨C2a,[]⟩
def Avn:Aac:=⟨[],[]⟩
def Bmw:Afc:=.cons .ret Avm (.cons (.exit 0) Avn (.nil))
abbrev A8h(R:Type):=d5->Int->Int->Int->(Bool->Option R)->(Option R)->Option R
abbrev Bmx(R:Type):=d5->Int->Int->Int->Option R
abbrev Asf:={R:Type}→Nat→Nat→A8h R
def A8i(Agj:Auc)(Acz:Aq2){R:Type}(N:Nat)(rc:Bmx R):A8h R:=fun b e f a g m=>if ((decide (a<(len b)))=true) then (if (0≤a∧a<len b) then (let h:=(b.getD a.toNat (0,(0,(0,(0,0))))).1;if ((h==e)=true) then (if (0≤a∧a<len b) then (Agj N h ((b.getD a.toNat (0,(0,(0,(0,0))))).2.1) ((b.getD a.toNat (0,(0,(0,(0,0))))).2.2.1) ((b.getD a.toNat (0,(0,(0,(0,0))))).2.2.2.1) ((b.getD a.toNat (0,(0,(0,(0,0))))).2.2.2.2) fun j=>Acz N N b e f a j j 0 (fun n=>g n) fun d l i o p=>let c:=(wi ((wi (o+p))+1));if ((decide (c<(len d)))=true) then (if (0≤c∧c<len d) then (if (((d.getD c.toNat (0,(0,(0,(0,0))))).1==i)=true) then (g false) else rc d l i c) else none) else rc d l i c) else none) else if ((h==f)=true) then (g false) else rc b e f (wi (a+1))) else none) else m
def Ac8{R:Type}(N:Nat):Nat→A8h R
 |0=>fun _ _ _ _ _ _=>none
 |k+1=>fun a b c d e f=>A8i @Agj @Acz N (fun a b c d=>Ac8 N k a b c d e f) a b c d e f
def Ayz(Ac8:Asf)(N k:Nat):Aa7 Aii:=fun R x K=>Ac8 N k x.1.1 x.1.2.1 x.1.2.2.1 x.1.2.2.2.2.1 (fun y0=>K .ret (Aaf Avm ((y0,()),(())))) (K (.exit 0) (Aaf Avn ((()),(()))))
def A8j(N k:Nat):Aa7 Aii:=Ayz @Ac8 N k
def Bd6:Aac:=⟨[Cl9,Aim,Aui,wq3],[]⟩
def Ay0:Aac:=⟨Amm,[]⟩
abbrev Cju(R:Type):=d5->Int->Int->(Bool->Option R)->Option R
abbrev Ari:={R:Type}→Nat→Cju R
def Bd7(Ac8:Asf):Ari:=fun {R} N b c d a=>Ac8 N N b c d 0 (fun e=>a e) (a true)
def Af7:Ari:=@Bd7 @Ac8
def C9e(N:Nat):Aas Bd6 [Ay0]:=fun R x C=>Af7 N x.1.1 x.1.2.1 x.1.2.2.1 (fun y0=>C.1 ((y0,()),(())))
def Bd8(Af7:Ari)(N:Nat):Go.AX.Aad:=Aaz [true,true,true,true] [] false 4 0 Bd6 [Ay0] (fun R x C=>Af7 N x.1.1 x.1.2.1 x.1.2.2.1 (fun y0=>C.1 ((y0,()),(()))))
def Bu6(N:Nat):Go.AX.Aad:=Bd8 @Af7 N
def C9f(N:Nat):List (Nat×Aa6):=[(17,Aab Ah1 (A5h N N)),(5,Aab Aii (A8j N N))]
def Cjv(N:Nat):List (Nat×Go.AX.Aad):=[(44,Bys N)]
def Brf:Aac:=⟨C8c,[]⟩
def A7q:Aac:=⟨Afp,[]⟩
abbrev Cvr(R:Type):=(List UInt8)->d4->d2->d3->d5->(Int->Option R)->Option R
abbrev A5i:={R:Type}→Nat→Cvr R
def Brg(Ajg:Azl)(Aj9:A5c)(Afv:A33)(Af7:Ari):A5i:=fun {R} N c d e f g a=>Ajg N c d e f g c d e f g fun m n h i j l b=>if (m=true) then (a 2) else Aj9 N h i j l b fun o p q r s=>Afv N N n b (len b) 0 h i j l b o p q r s (fun t=>a t) fun u x y z A v=>if ((!u)=true) then (a 60) else Af7 N v 14 15 fun w=>if ((!w)=true) then (a 60) else a 0
def Amd:A5i:=@Brg @Ajg @Aj9 @Afv @Af7
def Dc5(N:Nat):Aas Brf [A7q]:=fun R x C=>Amd N x.1.1.1 x.1.1.2.1 x.1.1.2.2.1 x.1.1.2.2.2.1 x.1.1.2.2.2.2.1 (fun y0=>C.1 ((y0,()),(())))
def B7k(Amd:A5i)(N:Nat):Go.AX.Aad:=Aaz [true] [] false 1 0 Brf [A7q] (fun R x C=>Amd N x.1.1.1 x.1.1.2.1 x.1.1.2.2.1 x.1.1.2.2.2.1 x.1.1.2.2.2.2.1 (fun y0=>C.1 ((y0,()),(()))))
def B7l(N:Nat):Go.AX.Aad:=B7k @Amd N
def Dc6(N:Nat):List (Nat×Aa6):=[(13,Aab Alf (Bd5 N N))]
def Cvs(N:Nat):List (Nat×Go.AX.Aad):=[(38,B7b N),(42,B7d N),(78,Bx7 N),(79,Bhn N),(81,Byh N),(83,Byj N),(84,Byl N),(85,Byo N),(86,Byq N),(43,Bu6 N)]
def Ceo:Code:=Tryz.f99.body.getD .skip
def B7m:Code:=Tryz.f148.body.getD .skip
def B7n:Code:=Tryz.f193.body.getD .skip
def Brh:Aac:=⟨Afp,[]⟩
def A7r:Aac:=⟨Amm,[]⟩
abbrev Cvt(R:Type):=Int->(Bool->Option R)->Option R
abbrev Aq3:={R:Type}→Nat→Cvt R
def Aea:Aq3:=fun {R} N a b=>if ((a==16)=true) then (b true) else if ((a==24)=true) then (b true) else b (a==32)
def Cvu(N:Nat):Aas Brh [A7r]:=fun R x C=>Aea N x.1.1 (fun y0=>C.1 ((y0,()),(())))
def Bd9(Aea:Aq3)(N:Nat):Go.AX.Aad:=Aaz [true] [] false 1 0 Brh [A7r] (fun R x C=>Aea N x.1.1 (fun y0=>C.1 ((y0,()),(()))))
def Bea(N:Nat):Go.AX.Aad:=Bd9 @Aea N
def Cvv(N:Nat):List (Nat×Aa6):=[]
def B7o(N:Nat):List (Nat×Go.AX.Aad):=[]
def Bri:Aac:=⟨[(0,.agg Cmf)],[]⟩
def A7s:Aac:=⟨Amm,[]⟩
abbrev Cvw(R:Type):=Int->Bool->(Bool->Option R)->Option R
abbrev Ahq:={R:Type}→Nat→Cvw R
def Beb(Aea:Aq3):Ahq:=fun {R} N a d b=>Aea N a fun c=>b c
def Abe:Ahq:=@Beb @Aea
def Dc7(N:Nat):Aas Bri [A7s]:=fun R x C=>Abe N x.1.1.1 x.1.1.2.1 (fun y0=>C.1 ((y0,()),(())))
def Ao1(Abe:Ahq)(N:Nat):Go.AX.Aad:=Aaz [true] [] false 1 0 Bri [A7s] (fun R x C=>Abe N x.1.1.1 x.1.1.2.1 (fun y0=>C.1 ((y0,()),(()))))
def Azr(N:Nat):Go.AX.Aad:=Ao1 @Abe N
def Dc8(N:Nat):List (Nat×Aa6):=[]
def Cvx(N:Nat):List (Nat×Go.AX.Aad):=[(193,Bea N)]
def Aqb:Code:=Tryz.f149.body.getD .skip
def Ar9:Code:=Tryz.f215.body.getD .skip
def Cep:Code:=Tryz.f280.body.getD .skip
def Aus:Code:=Tryz.f303.body.getD .skip
def Ceq:Code:=Tryz.f182.body.getD .skip
def B7p:Code:=Tryz.f263.body.getD .skip
def Brj:Aac:=⟨[Baw,B65],[]⟩
def A7t:Aac:=⟨Afp,[]⟩
abbrev Cvy(R:Type):=Int->Int->Bool->(Int->Option R)->Option R
abbrev Azs:={R:Type}→Nat→Cvy R
def Af0:Azs:=fun {R} N b d e c=>let a:=(wi (Int.tdiv d 8));if (e=true) then (if (a=0) then none else c (wi (8*(wi ((wi (a-1))-(Int.tmod b a)))))) else if (a=0) then none else c (wi (8*(Int.tmod b a)))
def Cvz(N:Nat):Aas Brj [A7t]:=fun R x C=>Af0 N x.1.1 x.1.2.1.1 x.1.2.1.2.1 (fun y0=>C.1 ((y0,()),(())))
def Brk(Af0:Azs)(N:Nat):Go.AX.Aad:=Aaz [true,true] [] false 2 0 Brj [A7t] (fun R x C=>Af0 N x.1.1 x.1.2.1.1 x.1.2.1.2.1 (fun y0=>C.1 ((y0,()),(()))))
def Brl(N:Nat):Go.AX.Aad:=Brk @Af0 N
def Cv0(N:Nat):List (Nat×Aa6):=[]
def B7q(N:Nat):List (Nat×Go.AX.Aad):=[]
def Cer:Code:=Tryz.f167.body.getD .skip
def Bwc:Aac:=⟨A2n,[]⟩
def Bac:Aac:=⟨Afp,[]⟩
abbrev Cyi(R:Type):=Int->Int->(Int->Option R)->Option R
abbrev Akq:={R:Type}→Nat→Cyi R
def Aax:Akq:=fun {R} N b c d=>let a:=(wi (64-c));if (a<0) then none else if (a<0) then none else d (Bz5 .i64 (Bk3 .i64 b a) a)
def Cyj(N:Nat):Aas Bwc [Bac]:=fun R x C=>Aax N x.1.1 x.1.2.1 (fun y0=>C.1 ((y0,()),(())))
def Ax9(Aax:Akq)(N:Nat):Go.AX.Aad:=Aaz [true,true] [] false 2 0 Bwc [Bac] (fun R x C=>Aax N x.1.1 x.1.2.1 (fun y0=>C.1 ((y0,()),(()))))
def A9j(N:Nat):Go.AX.Aad:=Ax9 @Aax N
def Cyk(N:Nat):List (Nat×Aa6):=[]
def Ces(N:Nat):List (Nat×Go.AX.Aad):=[]
def Bwd:Aac:=⟨[Baw,Aim,Aui,(3,.agg Cmf)],[]⟩
def Bad:Aac:=⟨Afp,[]⟩
abbrev Cyl(R:Type):=Int->Int->Int->Int->Bool->(Int->Option R)->Option R
abbrev At4:={R:Type}→Nat→Cyl R
def Cet(Af0:Azs)(Aax:Akq):At4:=fun {R} N c d e b f g=>Af0 N d b f fun a=>if (a<0) then none else if (a<0) then none else Aax N (orI .i64 (Ca1 .i64 c (Bk3 .i64 255 a)) (Bk3 .i64 (A0j .i64 e 255) a)) b fun h=>g h
def Agm:At4:=@Cet @Af0 @Aax
def Dd2(N:Nat):Aas Bwd [Bad]:=fun R x C=>Agm N x.1.1 x.1.2.1 x.1.2.2.1 x.1.2.2.2.1.1 x.1.2.2.2.1.2.1 (fun y0=>C.1 ((y0,()),(())))
def Bix(Agm:At4)(N:Nat):Go.AX.Aad:=Aaz [true,true,true,true] [] false 4 0 Bwd [Bad] (fun R x C=>Agm N x.1.1 x.1.2.1 x.1.2.2.1 x.1.2.2.2.1.1 x.1.2.2.2.1.2.1 (fun y0=>C.1 ((y0,()),(()))))
def Bwe(N:Nat):Go.AX.Aad:=Bix @Agm N
def Dd3(N:Nat):List (Nat×Aa6):=[]
def Cym(N:Nat):List (Nat×Go.AX.Aad):=[(263,Brl N),(167,A9j N)]
def Alg:Aac:=⟨[wq6,B02,(7,.one (.slf 33)),(30,.one (.val (.list (.int .u8)))),(31,.one wq0),(32,.one wq0)],C8e⟩
def Ay1:Aac:=⟨[(7,.one (.slf 32))],Cf1⟩
def Bu7:Afc:=.cons (.exit 0) Ay1 (.nil)
abbrev Bec(R:Type):=Int->d0->Int->Int->Int->Bool->d0->(d0->Option R)->Option R
abbrev Bu8(R:Type):=Int->d0->Int->Int->Int->Bool->d0->Option R
abbrev A34:={R:Type}→Nat→Nat→Bec R
def Bed(Agm:At4){R:Type}(N:Nat)(rc:Bu8 R):Bec R:=fun b e f a g h d i=>if ((decide (a<f))=true) then (if (0≤a∧a<len e) then (if (b=0) then none else let c:=(wi (Int.tdiv a b));if (b=0) then none else if (0≤c∧c<len d) then (if (b=0) then none else Agm N (d.getD c.toNat 0) (Int.tmod a b) (wi (e.getD a.toNat 0)) g h fun j=>if (0≤c∧c<len d) then (rc b e f (wi (a+1)) g h (d.set c.toNat j)) else none) else none) else none) else i d
def Af8{R:Type}(N:Nat):Nat→Bec R
 |0=>fun _ _ _ _ _ _ _ _=>none
 |k+1=>fun a b c d e f g h=>Bed @Agm N (fun a b c d e f g=>Af8 N k a b c d e f g h) a b c d e f g h
def Bee(Af8:A34)(N k:Nat):Aa7 Alg:=fun R x K=>Af8 N k x.1.2.1 x.1.2.2.2.1 x.1.2.2.2.2.1 x.1.2.2.2.2.2.1 x.2.1.1 x.2.1.2.1 x.2.2.1 (fun y0=>K (.exit 0) (Aaf Ay1 (((),()),(y0,()))))
def Bef(N k:Nat):Aa7 Alg:=Bee @Af8 N k
def Brm:Aac:=⟨[(0,.one (.val (.list (.int .u8)))),B65],[]⟩
def A7u:Aac:=⟨C8a,Cf1⟩
abbrev Cv1(R:Type):=d0->Int->Bool->(Int->d0->Option R)->Option R
abbrev A5j:={R:Type}→Nat→Cv1 R
def Brn(Abe:Ahq)(Af8:A34):A5j:=fun {R} N c d f e=>Abe N d f fun g=>if ((!g)=true) then (e 3 ([]:List Int)) else let a:=(wi (Int.tdiv d 8));if (a=0) then none else if (((Int.tmod (len c) a) != 0)=true) then (e 3 ([]:List Int)) else if (a=0) then none else let b:=(wi (Int.tdiv (len c) a));if ((0≤b)∧((b≤b)∧((b*8)≤70368744177664))) then (Af8 N N a c (len c) 0 d f (List.replicate (Int.toNat b) 0) fun h=>e 0 h) else none
def Ame:A5j:=@Brn @Abe @Af8
def Dc9(N:Nat):Aas Brm [A7u]:=fun R x C=>Ame N x.1.1 x.1.2.1.1 x.1.2.1.2.1 (fun y0 y1=>C.1 (((),y0,()),(y1,())))
def B7r(Ame:A5j)(N:Nat):Go.AX.Aad:=Aaz [true,true] [] false 2 0 Brm [A7u] (fun R x C=>Ame N x.1.1 x.1.2.1.1 x.1.2.1.2.1 (fun y0 y1=>C.1 (((),y0,()),(y1,()))))
def B7s(N:Nat):Go.AX.Aad:=B7r @Ame N
def Dda(N:Nat):List (Nat×Aa6):=[(13,Aab Alg (Bef N N))]
def Cv2(N:Nat):List (Nat×Go.AX.Aad):=[(148,Azr N),(182,Bwe N)]
def Bwf:Aac:=⟨[Cva,B65],[]⟩
def Bae:Aac:=⟨C8a,Cf1⟩
abbrev Cyn(R:Type):=(List UInt8)->Int->Bool->(Int->d0->Option R)->Option R
abbrev A2i:={R:Type}→Nat→Cyn R
def Bwg(Abe:Ahq)(Ame:A5j):A2i:=fun {R} N a f h g=>Abe N f h fun j=>if ((!j)=true) then (g 3 ([]:List Int)) else if ((decide ((len a) > 255))=true) then (g 2 ([]:List Int)) else let e:=(wi (Int.tdiv f 8));if (e=0) then none else let d:=(wi ((wi (Int.tdiv (wi ((wi ((wi ((len a)+1))+e))-1)) e))*e));if ((0≤d)∧((d≤d)∧((d*1)≤70368744177664))) then (let c:=(List.replicate (Int.toNat d) 0);if (((0 :Int)≤(0 :Int))∧(0<(len c))) then (if ((0≤(((List.length (List.set c (0:Nat) (IntKind.wrap .u8 (len a)))):Nat):Int))∧((((List.length (List.set c (0:Nat) (IntKind.wrap .u8 (len a)))):Nat):Int)≤(((List.length (List.set c (0:Nat) (IntKind.wrap .u8 (len a)))):Nat):Int))) then (if (((0 :Int)≤(1 :Int))∧(1≤(((List.length (List.set c (0:Nat) (IntKind.wrap .u8 (len a)))):Nat):Int))) then (let i:=((Int.toNat (((List.length (List.set c (0:Nat) (IntKind.wrap .u8 (len a)))):Nat):Int))-(1:Nat));Ame N (((List.take (1:Nat) (List.set c (0:Nat) (IntKind.wrap .u8 (len a))))++(List.take (Min.min (List.length (List.map (fun b:UInt8=>(((UInt8.toNat b):Nat):Int)) a)) i) (List.map (fun b:UInt8=>(((UInt8.toNat b):Nat):Int)) a)))++(List.drop ((1:Nat)+(Min.min (List.length (List.map (fun b:UInt8=>(((UInt8.toNat b):Nat):Int)) a)) i)) (List.set c (0:Nat) (IntKind.wrap .u8 (len a))))) f h fun l m=>g l m) else none) else none) else none) else none
def Akt:A2i:=@Bwg @Abe @Ame
def Dd4(N:Nat):Aas Bwf [Bae]:=fun R x C=>Akt N x.1.1 x.1.2.1.1 x.1.2.1.2.1 (fun y0 y1=>C.1 (((),y0,()),(y1,())))
def Bwh(Akt:A2i)(N:Nat):Go.AX.Aad:=Aaz [true,true] [] false 2 0 Bwf [Bae] (fun R x C=>Akt N x.1.1 x.1.2.1.1 x.1.2.1.2.1 (fun y0 y1=>C.1 (((),y0,()),(y1,()))))
def Ceu(N:Nat):Go.AX.Aad:=Bwh @Akt N
def Dd5(N:Nat):List (Nat×Aa6):=[]
def Cyo(N:Nat):List (Nat×Go.AX.Aad):=[(148,Azr N),(303,B7s N)]
def Cev:Code:=Tryz.f130.body.getD .skip
def Bwi:Aac:=⟨A2n,[]⟩
def Baf:Aac:=⟨A2n,[]⟩
abbrev Cyp(R:Type):=Int->Int->(Int->Int->Option R)->Option R
abbrev Aij:={R:Type}→Nat→Cyp R
def Bwj(Aea:Aq3)(Aax:Akq):Aij:=fun {R} N c a b=>Aea N a fun d=>if ((!d)=true) then (b 0 3) else Aax N c a fun e=>b e 0
def Abo:Aij:=@Bwj @Aea @Aax
def Dd6(N:Nat):Aas Bwi [Baf]:=fun R x C=>Abo N x.1.1 x.1.2.1 (fun y0 y1=>C.1 ((y0,y1,()),(())))
def Aqi(Abo:Aij)(N:Nat):Go.AX.Aad:=Aaz [true,true] [] false 2 0 Bwi [Baf] (fun R x C=>Abo N x.1.1 x.1.2.1 (fun y0 y1=>C.1 ((y0,y1,()),(()))))
def A9k(N:Nat):Go.AX.Aad:=Aqi @Abo N
def Dd7(N:Nat):List (Nat×Aa6):=[]
def Cyq(N:Nat):List (Nat×Go.AX.Aad):=[(193,Bea N),(167,A9j N)]
def Aka:Aac:=⟨[wq6,(6,.one (.slf 33)),(21,.one C73),(22,.one wq0),(23,.one wq0)],C8e⟩
def Axm:Aac:=⟨[(6,.one (.slf 32))],Cf1⟩
def Bro:Afc:=.cons (.exit 0) Axm (.nil)
abbrev Bbs(R:Type):=d0->Int->Int->Int->Bool->d0->(d0->Option R)->Option R
abbrev Brp(R:Type):=d0->Int->Int->Int->Bool->d0->Option R
abbrev A1b:={R:Type}→Nat→Nat→Bbs R
def Bbt(Abo:Aij){R:Type}(N:Nat)(rc:Brp R):Bbs R:=fun b d a e g c h=>if ((decide (a<d))=true) then (if (0≤a∧a<len b) then (Abo N (b.getD a.toNat 0) e fun f i=>if ((((List.length c)+(List.length (f::([]:List Int))))*(8:Nat))≤(70368744177664:Nat)) then (rc b d (wi (a+1)) e g (c++(f::([]:List Int)))) else none) else none) else h c
def Afr{R:Type}(N:Nat):Nat→Bbs R
 |0=>fun _ _ _ _ _ _ _=>none
 |k+1=>fun a b c d e f g=>Bbt @Abo N (fun a b c d e f=>Afr N k a b c d e f g) a b c d e f g
def Bbu(Afr:A1b)(N k:Nat):Aa7 Aka:=fun R x K=>Afr N k x.1.2.2.1 x.1.2.2.2.1 x.1.2.2.2.2.1 x.2.1.1 x.2.1.2.1 x.2.2.1 (fun y0=>K (.exit 0) (Aaf Axm (((),()),(y0,()))))
def Bbv(N k:Nat):Aa7 Aka:=Bbu @Afr N k
def Bl7:Aac:=⟨[(0,.agg [(.val .str),(.val .bool),C73]),B65],[]⟩
def A35:Aac:=⟨C8a,Cf1⟩
abbrev Cq9(R:Type):=(List UInt8)->Bool->d0->Int->Bool->(Int->d0->Option R)->Option R
abbrev Akh:={R:Type}→Nat→Cq9 R
def Bl8(Abe:Ahq)(Akt:A2i)(Afr:A1b):Akh:=fun {R} N e f d a b c=>Abe N a b fun g=>if ((!g)=true) then (c 3 ([]:List Int)) else if (f=true) then (Akt N e a b fun h i=>c h i) else Afr N N d (len d) 0 a b ([]:List Int) fun j=>c 0 j
def Acq:Akh:=@Bl8 @Abe @Akt @Afr
def Db1(N:Nat):Aas Bl7 [A35]:=fun R x C=>Acq N x.1.1.1 x.1.1.2.1 x.1.1.2.2.1 x.1.2.1.1 x.1.2.1.2.1 (fun y0 y1=>C.1 (((),y0,()),(y1,())))
def Asa(Acq:Akh)(N:Nat):Go.AX.Aad:=Aaz [true,true] [] false 2 0 Bl7 [A35] (fun R x C=>Acq N x.1.1.1 x.1.1.2.1 x.1.1.2.2.1 x.1.2.1.1 x.1.2.1.2.1 (fun y0 y1=>C.1 (((),y0,()),(y1,()))))
def Bl9(N:Nat):Go.AX.Aad:=Asa @Acq N
def Db2(N:Nat):List (Nat×Aa6):=[(15,Aab Aka (Bbv N N))]
def Cra(N:Nat):List (Nat×Go.AX.Aad):=[(148,Azr N),(280,Ceu N),(130,A9k N)]
def Ajh:Aac:=⟨[wq6,(8,.one (.slf 33)),Bqb,(23,.one (.val z3)),(24,.one wq0),(25,.one wq0)],C8e⟩
def Avo:Aac:=⟨[C14,Bqb],Cf1⟩
def Bmy:Afc:=.cons (.exit 0) Avo (.nil)
abbrev A8k(R:Type):=Int->d4->Int->Int->Int->Bool->d0->(Int->d0->Option R)->Option R
abbrev Bmz(R:Type):=Int->d4->Int->Int->Int->Bool->d0->Option R
abbrev Ay2:={R:Type}→Nat→Nat→A8k R
def A8l(Acq:Akh){R:Type}(N:Nat)(rc:Bmz R):A8k R:=fun c b e a f g d h=>if ((decide (a<e))=true) then (if (0≤a∧a<len b) then (if ((((List.length d)+(List.length (c::([]:List Int))))*(8:Nat))≤(70368744177664:Nat)) then (Acq N ((b.getD a.toNat (([]:List UInt8),(false,([]:List Int)))).1) ((b.getD a.toNat (([]:List UInt8),(false,([]:List Int)))).2.1) ((b.getD a.toNat (([]:List UInt8),(false,([]:List Int)))).2.2) f g fun j i=>rc (wi (c+(len i))) b e (wi (a+1)) f g (d++(c::([]:List Int)))) else none) else none) else h c d
def Ae3{R:Type}(N:Nat):Nat→A8k R
 |0=>fun _ _ _ _ _ _ _ _=>none
 |k+1=>fun a b c d e f g h=>A8l @Acq N (fun a b c d e f g=>Ae3 N k a b c d e f g h) a b c d e f g h
end
end Q
