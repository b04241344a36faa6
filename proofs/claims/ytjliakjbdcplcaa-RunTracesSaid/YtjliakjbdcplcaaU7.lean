import Derived.Test.YtjliakjbdcplcaaU1
import Derived.Test.YtjliakjbdcplcaaU6
import Derived.Test.YtjliakjbdcplcaaChecked
import Derived.RegionTactic
import Derived.OwnWalk
import Derived.Laws.Rows
import Derived.WalkSpells
import Derived.RangeFuncRecord
import Derived.RangeFuncCalls
import Derived.RangeFuncSeq
import Derived.OrdersIn
import Derived.RangeFuncLeaves
set_option linter.unusedSimpArgs false
set_option linter.unusedVariables false
set_option maxRecDepth 100000
section
namespace Go.Proofs.Ytjliakjbdcplcaa.Vm
open Go.RowKit
def zs:List (Nat×SV):=[(1,.nilf),(2,.nat .i64 0),(3,.nat .i64 0),(4,.bool false),(5,.nat .u8 0),(6,.nat .u8 0),(9,.str ⟨#[]⟩),(21,.nat .i32 0),(22,.sl 0 0 [] 0 0 0 (some 0)),(23,.arr 8 1 fun _=>.nat .i64 0),(24,.sl 0 0 [] 0 0 0 (some 0)),(25,.nat .u32 0),(27,.agg [.nat .u8 0,(.arr 8 1 fun _=>.nat .i64 0),.sl 0 0 [] 0 0 0 (some 0),.nat .u32 0,.nat .u8 0]),(28,.nat .u64 0),(30,.agg [.nat .u64 0,.nat .i64 0,.nat .i64 0,.nat .i64 0,.nat .i64 0]),(31,.nat .u16 0),(33,.agg [.sl 0 0 [] 0 0 0 (some 0),.agg [.nat .u8 0,(.arr 8 1 fun _=>.nat .i64 0),.sl 0 0 [] 0 0 0 (some 0),.nat .u32 0,.nat .u8 0],.agg [.nat .u64 0,.nat .i64 0,.nat .i64 0,.nat .i64 0,.nat .i64 0],.nat .u32 0,.nat .u8 0,.nat .i64 0,.nat .u16 0]),(35,.sl 0 0 [] 0 0 0 (some 0)),(37,.agg [.nat .i64 0,.nat .i64 0,.nat .i64 0]),(39,.agg [.agg [.nat .i64 0,.nat .i64 0,.nat .i64 0],.nat .i64 0,.nat .i64 0]),(41,.agg [.sl 0 0 [] 0 0 0 (some 0),.agg [.nat .u64 0,.nat .i64 0,.nat .i64 0,.nat .i64 0,.nat .i64 0],.agg [.agg [.nat .i64 0,.nat .i64 0,.nat .i64 0],.nat .i64 0,.nat .i64 0],.sl 0 0 [] 0 0 0 (some 0),.nat .i64 0,.nat .i64 0]),(43,.sl 0 0 [] 0 0 0 (some 0)),(45,.agg [.nat .i64 0,.nat .i64 0,.sl 0 0 [] 0 0 0 (some 0),.nat .i64 0,.sl 0 0 [] 0 0 0 (some 0)]),(46,.nat .i64 0),(51,.sl 0 0 [] 0 0 0 (some 0)),(52,.nilp),(58,.agg [.nat .i64 0,.bool false,(.arr 8 1 fun _=>.nat .i64 0),.sl 0 0 [] 0 0 0 (some 0),.nat .i64 0,.sl 0 0 [] 0 0 0 (some 0)]),(64,.agg [.nat .i64 0,.nat .i64 0,.nat .i64 0]),(69,.sl 0 0 [] 0 0 0 (some 0)),(73,.agg [.nat .u8 0,.nat .u8 0,.nat .u8 0,.nat .u8 0,.nat .i64 0]),(103,.sl 0 0 [] 0 0 0 (some 0)),(108,.agg [.nat .i64 0,.nat .i64 0,.nat .i64 0]),(110,.agg [.bool false,.nat .i64 0]),(111,.arr 8 2 fun _=>.agg [.bool false,.nat .i64 0]),(113,.agg [.bool false,(.arr 8 2 fun _=>.agg [.bool false,.nat .i64 0])]),(120,.nilp),(123,.nilf),(125,.agg [.nilp,.nilf,.nat .i64 0,.bool false]),(127,.nilf),(128,.nilf),(152,.nilf),(153,.nilf),(155,.agg [.nat .u8 0,.nat .u8 0,.nat .u8 0,.nat .u8 0,.nat .i64 0]),(157,.nilp),(161,.agg [.nilp,.sl 0 0 [] 0 0 0 (some 0)]),(162,.nilf),(164,.agg [.agg [.nat .i64 0,.bool false,(.arr 8 1 fun _=>.nat .i64 0),.sl 0 0 [] 0 0 0 (some 0),.nat .i64 0,.sl 0 0 [] 0 0 0 (some 0)],.agg [.nat .u64 0,.nat .i64 0,.nat .i64 0,.nat .i64 0,.nat .i64 0],.agg [.nat .u8 0,.nat .u8 0,.nat .u8 0,.nat .u8 0,.nat .i64 0]]),(178,.nilf),(184,.nilf),(185,.nilf),(193,.nilp),(194,.sl 0 0 [] 0 0 0 (some 0)),(199,.arr 3 1 fun _=>.nat .u8 0),(201,.nilf),(205,.agg [.nat .u8 0,.str ⟨#[]⟩]),(206,.arr 11 2 fun _=>.agg [.nat .u8 0,.str ⟨#[]⟩]),(209,.nilf),(211,.agg [.nat .u8 0,.nilf]),(212,.arr 11 2 fun _=>.agg [.nat .u8 0,.nilf]),(218,.nilp),(224,.agg [.str ⟨#[]⟩,.bool false]),(225,.arr 18 2 fun _=>.agg [.str ⟨#[]⟩,.bool false]),(235,.nat .u64 0),(236,.sl 0 0 [] 0 0 0 (some 0))]
def tys:List (Nat×TK):=[(1,TK.func),(2,TK.int IntKind.i64),(3,TK.int IntKind.i64),(4,TK.bool),(5,TK.int IntKind.u8),(6,TK.int IntKind.u8),(9,TK.str),(21,TK.int IntKind.i32),(22,TK.slice 155 5 16),(23,TK.array 2 8 1 false),(24,TK.slice 2 1 8),(25,TK.int IntKind.u32),(27,TK.struct 12 [(0,1,false),(1,8,true),(9,1,false),(10,1,false),(11,1,false)]),(28,TK.int IntKind.u64),(30,TK.struct 5 [(0,1,false),(1,1,false),(2,1,false),(3,1,false),(4,1,false)]),(31,TK.int IntKind.u16),(33,TK.struct 22 [(0,1,false),(1,12,true),(13,5,true),(18,1,false),(19,1,false),(20,1,false),(21,1,false)]),(35,TK.slice 73 5 16),(37,TK.struct 3 [(0,1,false),(1,1,false),(2,1,false)]),(39,TK.struct 5 [(0,3,true),(3,1,false),(4,1,false)]),(41,TK.struct 14 [(0,1,false),(1,5,true),(6,5,true),(11,1,false),(12,1,false),(13,1,false)]),(43,TK.slice 64 3 24),(45,TK.struct 5 [(0,1,false),(1,1,false),(2,1,false),(3,1,false),(4,1,false)]),(46,TK.int IntKind.i64),(51,TK.slice 5 1 1),(52,TK.ptr 4),(58,TK.struct 13 [(0,1,false),(1,1,false),(2,8,true),(10,1,false),(11,1,false),(12,1,false)]),(64,TK.struct 3 [(0,1,false),(1,1,false),(2,1,false)]),(69,TK.slice 3 1 8),(73,TK.struct 5 [(0,1,false),(1,1,false),(2,1,false),(3,1,false),(4,1,false)]),(103,TK.slice 113 17 136),(108,TK.struct 3 [(0,1,false),(1,1,false),(2,1,false)]),(110,TK.struct 2 [(0,1,false),(1,1,false)]),(111,TK.array 110 8 2 true),(113,TK.struct 17 [(0,1,false),(1,16,true)]),(120,TK.ptr 2),(123,TK.func),(125,TK.struct 4 [(0,1,false),(1,1,false),(2,1,false),(3,1,false)]),(127,TK.func),(128,TK.func),(152,TK.func),(153,TK.func),(155,TK.struct 5 [(0,1,false),(1,1,false),(2,1,false),(3,1,false),(4,1,false)]),(157,TK.ptr 23),(161,TK.struct 2 [(0,1,false),(1,1,false)]),(162,TK.func),(164,TK.struct 23 [(0,13,true),(13,5,true),(18,5,true)]),(178,TK.func),(184,TK.func),(185,TK.func),(193,TK.ptr 1),(194,TK.slice 193 1 8),(199,TK.array 5 3 1 false),(201,TK.func),(205,TK.struct 2 [(0,1,false),(1,1,false)]),(206,TK.array 205 11 2 true),(209,TK.func),(211,TK.struct 2 [(0,1,false),(1,1,false)]),(212,TK.array 211 11 2 true),(218,TK.ptr 1),(224,TK.struct 2 [(0,1,false),(1,1,false)]),(225,TK.array 224 18 2 true),(235,TK.int IntKind.u64),(236,TK.slice 28 1 8)]
def ets:List (Nat×ET):=[(23,.arr 8 1 (.int .i64)),(30,.struct [.int .u64,.int .i64,.int .i64,.int .i64,.int .i64]),(37,.struct [.int .i64,.int .i64,.int .i64]),(39,.struct [.struct [.int .i64,.int .i64,.int .i64],.int .i64,.int .i64]),(64,.struct [.int .i64,.int .i64,.int .i64]),(73,.struct [.int .u8,.int .u8,.int .u8,.int .u8,.int .i64]),(108,.struct [.int .i64,.int .i64,.int .i64]),(110,.struct [.bool,.int .i64]),(111,.arr 8 2 (.struct [.bool,.int .i64])),(113,.struct [.bool,.arr 8 2 (.struct [.bool,.int .i64])]),(155,.struct [.int .u8,.int .u8,.int .u8,.int .u8,.int .i64]),(199,.arr 3 1 (.int .u8))]
def tab:Tab:=⟨xb_ tys,look zs,xb_ ets⟩
theorem zo_1:ZeroOk Try.prog 1 (.nilf):=⟨rfl,by simp only[Stable,zd_,hm0,HB.born,if_true,implies_true,and_self],by kernel_rfl⟩
theorem zo_2:ZeroOk Try.prog 2 (.nat .i64 0):=⟨rfl,by simp only[Stable,zd_,hm0,HB.born,if_true,implies_true,and_self],by kernel_rfl⟩
theorem zo_3:ZeroOk Try.prog 3 (.nat .i64 0):=⟨rfl,by simp only[Stable,zd_,hm0,HB.born,if_true,implies_true,and_self],by kernel_rfl⟩
theorem zo_4:ZeroOk Try.prog 4 (.bool false):=⟨rfl,by simp only[Stable,zd_,hm0,HB.born,if_true,implies_true,and_self],by kernel_rfl⟩
theorem zo_5:ZeroOk Try.prog 5 (.nat .u8 0):=⟨rfl,by simp only[Stable,zd_,hm0,HB.born,if_true,implies_true,and_self],by kernel_rfl⟩
theorem zo_6:ZeroOk Try.prog 6 (.nat .u8 0):=⟨rfl,by simp only[Stable,zd_,hm0,HB.born,if_true,implies_true,and_self],by kernel_rfl⟩
theorem zo_9:ZeroOk Try.prog 9 (.str ⟨#[]⟩):=⟨rfl,by simp only[Stable,zd_,hm0,HB.born,if_true,implies_true,and_self],by kernel_rfl⟩
theorem zo_21:ZeroOk Try.prog 21 (.nat .i32 0):=⟨rfl,by simp only[Stable,zd_,hm0,HB.born,if_true,implies_true,and_self],by kernel_rfl⟩
theorem zo_22:ZeroOk Try.prog 22 (.sl 0 0 [] 0 0 0 (some 0)):=⟨rfl,by simp only[Stable,zd_,hm0,HB.born,if_true,implies_true,and_self],by kernel_rfl⟩
theorem zo_23:ZeroOk Try.prog 23 (.arr 8 1 fun _=>.nat .i64 0):=⟨rfl,by simp only[Stable,zd_,hm0,HB.born,if_true,implies_true,and_self],by kernel_rfl⟩
theorem zo_24:ZeroOk Try.prog 24 (.sl 0 0 [] 0 0 0 (some 0)):=⟨rfl,by simp only[Stable,zd_,hm0,HB.born,if_true,implies_true,and_self],by kernel_rfl⟩
theorem zo_25:ZeroOk Try.prog 25 (.nat .u32 0):=⟨rfl,by simp only[Stable,zd_,hm0,HB.born,if_true,implies_true,and_self],by kernel_rfl⟩
theorem zo_27:ZeroOk Try.prog 27 (.agg [.nat .u8 0,(.arr 8 1 fun _=>.nat .i64 0),.sl 0 0 [] 0 0 0 (some 0),.nat .u32 0,.nat .u8 0]):=⟨rfl,by simp only[Stable,zd_,hm0,HB.born,if_true,implies_true,and_self],by kernel_rfl⟩
theorem zo_28:ZeroOk Try.prog 28 (.nat .u64 0):=⟨rfl,by simp only[Stable,zd_,hm0,HB.born,if_true,implies_true,and_self],by kernel_rfl⟩
theorem zo_30:ZeroOk Try.prog 30 (.agg [.nat .u64 0,.nat .i64 0,.nat .i64 0,.nat .i64 0,.nat .i64 0]):=⟨rfl,by simp only[Stable,zd_,hm0,HB.born,if_true,implies_true,and_self],by kernel_rfl⟩
theorem zo_31:ZeroOk Try.prog 31 (.nat .u16 0):=⟨rfl,by simp only[Stable,zd_,hm0,HB.born,if_true,implies_true,and_self],by kernel_rfl⟩
theorem zo_33:ZeroOk Try.prog 33 (.agg [.sl 0 0 [] 0 0 0 (some 0),.agg [.nat .u8 0,(.arr 8 1 fun _=>.nat .i64 0),.sl 0 0 [] 0 0 0 (some 0),.nat .u32 0,.nat .u8 0],.agg [.nat .u64 0,.nat .i64 0,.nat .i64 0,.nat .i64 0,.nat .i64 0],.nat .u32 0,.nat .u8 0,.nat .i64 0,.nat .u16 0]):=⟨rfl,by simp only[Stable,zd_,hm0,HB.born,if_true,implies_true,and_self],by kernel_rfl⟩
theorem zo_35:ZeroOk Try.prog 35 (.sl 0 0 [] 0 0 0 (some 0)):=⟨rfl,by simp only[Stable,zd_,hm0,HB.born,if_true,implies_true,and_self],by kernel_rfl⟩
theorem zo_37:ZeroOk Try.prog 37 (.agg [.nat .i64 0,.nat .i64 0,.nat .i64 0]):=⟨rfl,by simp only[Stable,zd_,hm0,HB.born,if_true,implies_true,and_self],by kernel_rfl⟩
theorem zo_39:ZeroOk Try.prog 39 (.agg [.agg [.nat .i64 0,.nat .i64 0,.nat .i64 0],.nat .i64 0,.nat .i64 0]):=⟨rfl,by simp only[Stable,zd_,hm0,HB.born,if_true,implies_true,and_self],by kernel_rfl⟩
theorem zo_41:ZeroOk Try.prog 41 (.agg [.sl 0 0 [] 0 0 0 (some 0),.agg [.nat .u64 0,.nat .i64 0,.nat .i64 0,.nat .i64 0,.nat .i64 0],.agg [.agg [.nat .i64 0,.nat .i64 0,.nat .i64 0],.nat .i64 0,.nat .i64 0],.sl 0 0 [] 0 0 0 (some 0),.nat .i64 0,.nat .i64 0]):=⟨rfl,by simp only[Stable,zd_,hm0,HB.born,if_true,implies_true,and_self],by kernel_rfl⟩
theorem zo_43:ZeroOk Try.prog 43 (.sl 0 0 [] 0 0 0 (some 0)):=⟨rfl,by simp only[Stable,zd_,hm0,HB.born,if_true,implies_true,and_self],by kernel_rfl⟩
theorem zo_45:ZeroOk Try.prog 45 (.agg [.nat .i64 0,.nat .i64 0,.sl 0 0 [] 0 0 0 (some 0),.nat .i64 0,.sl 0 0 [] 0 0 0 (some 0)]):=⟨rfl,by simp only[Stable,zd_,hm0,HB.born,if_true,implies_true,and_self],by kernel_rfl⟩
theorem zo_46:ZeroOk Try.prog 46 (.nat .i64 0):=⟨rfl,by simp only[Stable,zd_,hm0,HB.born,if_true,implies_true,and_self],by kernel_rfl⟩
theorem zo_51:ZeroOk Try.prog 51 (.sl 0 0 [] 0 0 0 (some 0)):=⟨rfl,by simp only[Stable,zd_,hm0,HB.born,if_true,implies_true,and_self],by kernel_rfl⟩
theorem zo_52:ZeroOk Try.prog 52 (.nilp):=⟨rfl,by simp only[Stable,zd_,hm0,HB.born,if_true,implies_true,and_self],by kernel_rfl⟩
theorem zo_58:ZeroOk Try.prog 58 (.agg [.nat .i64 0,.bool false,(.arr 8 1 fun _=>.nat .i64 0),.sl 0 0 [] 0 0 0 (some 0),.nat .i64 0,.sl 0 0 [] 0 0 0 (some 0)]):=⟨rfl,by simp only[Stable,zd_,hm0,HB.born,if_true,implies_true,and_self],by kernel_rfl⟩
theorem zo_64:ZeroOk Try.prog 64 (.agg [.nat .i64 0,.nat .i64 0,.nat .i64 0]):=⟨rfl,by simp only[Stable,zd_,hm0,HB.born,if_true,implies_true,and_self],by kernel_rfl⟩
theorem zo_69:ZeroOk Try.prog 69 (.sl 0 0 [] 0 0 0 (some 0)):=⟨rfl,by simp only[Stable,zd_,hm0,HB.born,if_true,implies_true,and_self],by kernel_rfl⟩
theorem zo_73:ZeroOk Try.prog 73 (.agg [.nat .u8 0,.nat .u8 0,.nat .u8 0,.nat .u8 0,.nat .i64 0]):=⟨rfl,by simp only[Stable,zd_,hm0,HB.born,if_true,implies_true,and_self],by kernel_rfl⟩
theorem zo_103:ZeroOk Try.prog 103 (.sl 0 0 [] 0 0 0 (some 0)):=⟨rfl,by simp only[Stable,zd_,hm0,HB.born,if_true,implies_true,and_self],by kernel_rfl⟩
theorem zo_108:ZeroOk Try.prog 108 (.agg [.nat .i64 0,.nat .i64 0,.nat .i64 0]):=⟨rfl,by simp only[Stable,zd_,hm0,HB.born,if_true,implies_true,and_self],by kernel_rfl⟩
theorem zo_110:ZeroOk Try.prog 110 (.agg [.bool false,.nat .i64 0]):=⟨rfl,by simp only[Stable,zd_,hm0,HB.born,if_true,implies_true,and_self],by kernel_rfl⟩
theorem zo_111:ZeroOk Try.prog 111 (.arr 8 2 fun _=>.agg [.bool false,.nat .i64 0]):=⟨rfl,by simp only[Stable,zd_,hm0,HB.born,if_true,implies_true,and_self],by kernel_rfl⟩
theorem zo_113:ZeroOk Try.prog 113 (.agg [.bool false,(.arr 8 2 fun _=>.agg [.bool false,.nat .i64 0])]):=⟨rfl,by simp only[Stable,zd_,hm0,HB.born,if_true,implies_true,and_self],by kernel_rfl⟩
theorem zo_120:ZeroOk Try.prog 120 (.nilp):=⟨rfl,by simp only[Stable,zd_,hm0,HB.born,if_true,implies_true,and_self],by kernel_rfl⟩
theorem zo_123:ZeroOk Try.prog 123 (.nilf):=⟨rfl,by simp only[Stable,zd_,hm0,HB.born,if_true,implies_true,and_self],by kernel_rfl⟩
theorem zo_125:ZeroOk Try.prog 125 (.agg [.nilp,.nilf,.nat .i64 0,.bool false]):=⟨rfl,by simp only[Stable,zd_,hm0,HB.born,if_true,implies_true,and_self],by kernel_rfl⟩
theorem zo_127:ZeroOk Try.prog 127 (.nilf):=⟨rfl,by simp only[Stable,zd_,hm0,HB.born,if_true,implies_true,and_self],by kernel_rfl⟩
theorem zo_128:ZeroOk Try.prog 128 (.nilf):=⟨rfl,by simp only[Stable,zd_,hm0,HB.born,if_true,implies_true,and_self],by kernel_rfl⟩
theorem zo_152:ZeroOk Try.prog 152 (.nilf):=⟨rfl,by simp only[Stable,zd_,hm0,HB.born,if_true,implies_true,and_self],by kernel_rfl⟩
theorem zo_153:ZeroOk Try.prog 153 (.nilf):=⟨rfl,by simp only[Stable,zd_,hm0,HB.born,if_true,implies_true,and_self],by kernel_rfl⟩
theorem zo_155:ZeroOk Try.prog 155 (.agg [.nat .u8 0,.nat .u8 0,.nat .u8 0,.nat .u8 0,.nat .i64 0]):=⟨rfl,by simp only[Stable,zd_,hm0,HB.born,if_true,implies_true,and_self],by kernel_rfl⟩
theorem zo_157:ZeroOk Try.prog 157 (.nilp):=⟨rfl,by simp only[Stable,zd_,hm0,HB.born,if_true,implies_true,and_self],by kernel_rfl⟩
theorem zo_161:ZeroOk Try.prog 161 (.agg [.nilp,.sl 0 0 [] 0 0 0 (some 0)]):=⟨rfl,by simp only[Stable,zd_,hm0,HB.born,if_true,implies_true,and_self],by kernel_rfl⟩
theorem zo_162:ZeroOk Try.prog 162 (.nilf):=⟨rfl,by simp only[Stable,zd_,hm0,HB.born,if_true,implies_true,and_self],by kernel_rfl⟩
theorem zo_164:ZeroOk Try.prog 164 (.agg [.agg [.nat .i64 0,.bool false,(.arr 8 1 fun _=>.nat .i64 0),.sl 0 0 [] 0 0 0 (some 0),.nat .i64 0,.sl 0 0 [] 0 0 0 (some 0)],.agg [.nat .u64 0,.nat .i64 0,.nat .i64 0,.nat .i64 0,.nat .i64 0],.agg [.nat .u8 0,.nat .u8 0,.nat .u8 0,.nat .u8 0,.nat .i64 0]]):=⟨rfl,by simp only[Stable,zd_,hm0,HB.born,if_true,implies_true,and_self],by kernel_rfl⟩
theorem zo_178:ZeroOk Try.prog 178 (.nilf):=⟨rfl,by simp only[Stable,zd_,hm0,HB.born,if_true,implies_true,and_self],by kernel_rfl⟩
theorem zo_184:ZeroOk Try.prog 184 (.nilf):=⟨rfl,by simp only[Stable,zd_,hm0,HB.born,if_true,implies_true,and_self],by kernel_rfl⟩
theorem zo_185:ZeroOk Try.prog 185 (.nilf):=⟨rfl,by simp only[Stable,zd_,hm0,HB.born,if_true,implies_true,and_self],by kernel_rfl⟩
theorem zo_193:ZeroOk Try.prog 193 (.nilp):=⟨rfl,by simp only[Stable,zd_,hm0,HB.born,if_true,implies_true,and_self],by kernel_rfl⟩
theorem zo_194:ZeroOk Try.prog 194 (.sl 0 0 [] 0 0 0 (some 0)):=⟨rfl,by simp only[Stable,zd_,hm0,HB.born,if_true,implies_true,and_self],by kernel_rfl⟩
theorem zo_199:ZeroOk Try.prog 199 (.arr 3 1 fun _=>.nat .u8 0):=⟨rfl,by simp only[Stable,zd_,hm0,HB.born,if_true,implies_true,and_self],by kernel_rfl⟩
theorem zo_201:ZeroOk Try.prog 201 (.nilf):=⟨rfl,by simp only[Stable,zd_,hm0,HB.born,if_true,implies_true,and_self],by kernel_rfl⟩
theorem zo_205:ZeroOk Try.prog 205 (.agg [.nat .u8 0,.str ⟨#[]⟩]):=⟨rfl,by simp only[Stable,zd_,hm0,HB.born,if_true,implies_true,and_self],by kernel_rfl⟩
theorem zo_206:ZeroOk Try.prog 206 (.arr 11 2 fun _=>.agg [.nat .u8 0,.str ⟨#[]⟩]):=⟨rfl,by simp only[Stable,zd_,hm0,HB.born,if_true,implies_true,and_self],by kernel_rfl⟩
theorem zo_209:ZeroOk Try.prog 209 (.nilf):=⟨rfl,by simp only[Stable,zd_,hm0,HB.born,if_true,implies_true,and_self],by kernel_rfl⟩
theorem zo_211:ZeroOk Try.prog 211 (.agg [.nat .u8 0,.nilf]):=⟨rfl,by simp only[Stable,zd_,hm0,HB.born,if_true,implies_true,and_self],by kernel_rfl⟩
theorem zo_212:ZeroOk Try.prog 212 (.arr 11 2 fun _=>.agg [.nat .u8 0,.nilf]):=⟨rfl,by simp only[Stable,zd_,hm0,HB.born,if_true,implies_true,and_self],by kernel_rfl⟩
theorem zo_218:ZeroOk Try.prog 218 (.nilp):=⟨rfl,by simp only[Stable,zd_,hm0,HB.born,if_true,implies_true,and_self],by kernel_rfl⟩
theorem zo_224:ZeroOk Try.prog 224 (.agg [.str ⟨#[]⟩,.bool false]):=⟨rfl,by simp only[Stable,zd_,hm0,HB.born,if_true,implies_true,and_self],by kernel_rfl⟩
theorem zo_225:ZeroOk Try.prog 225 (.arr 18 2 fun _=>.agg [.str ⟨#[]⟩,.bool false]):=⟨rfl,by simp only[Stable,zd_,hm0,HB.born,if_true,implies_true,and_self],by kernel_rfl⟩
theorem zo_235:ZeroOk Try.prog 235 (.nat .u64 0):=⟨rfl,by simp only[Stable,zd_,hm0,HB.born,if_true,implies_true,and_self],by kernel_rfl⟩
theorem zo_236:ZeroOk Try.prog 236 (.sl 0 0 [] 0 0 0 (some 0)):=⟨rfl,by simp only[Stable,zd_,hm0,HB.born,if_true,implies_true,and_self],by kernel_rfl⟩
theorem tk_1:tkOf Try.prog 1=some TK.func:=by kernel_rfl
theorem tk_2:tkOf Try.prog 2=some (TK.int IntKind.i64):=by kernel_rfl
theorem tk_3:tkOf Try.prog 3=some (TK.int IntKind.i64):=by kernel_rfl
theorem tk_4:tkOf Try.prog 4=some TK.bool:=by kernel_rfl
theorem tk_5:tkOf Try.prog 5=some (TK.int IntKind.u8):=by kernel_rfl
theorem tk_6:tkOf Try.prog 6=some (TK.int IntKind.u8):=by kernel_rfl
theorem tk_9:tkOf Try.prog 9=some TK.str:=by kernel_rfl
theorem tk_21:tkOf Try.prog 21=some (TK.int IntKind.i32):=by kernel_rfl
theorem tk_22:tkOf Try.prog 22=some (TK.slice 155 5 16):=by kernel_rfl
theorem tk_23:tkOf Try.prog 23=some (TK.array 2 8 1 false):=by kernel_rfl
theorem tk_24:tkOf Try.prog 24=some (TK.slice 2 1 8):=by kernel_rfl
theorem tk_25:tkOf Try.prog 25=some (TK.int IntKind.u32):=by kernel_rfl
theorem tk_27:tkOf Try.prog 27=some (TK.struct 12 [(0,1,false),(1,8,true),(9,1,false),(10,1,false),(11,1,false)]):=by kernel_rfl
theorem tk_28:tkOf Try.prog 28=some (TK.int IntKind.u64):=by kernel_rfl
theorem tk_30:tkOf Try.prog 30=some (TK.struct 5 [(0,1,false),(1,1,false),(2,1,false),(3,1,false),(4,1,false)]):=by kernel_rfl
theorem tk_31:tkOf Try.prog 31=some (TK.int IntKind.u16):=by kernel_rfl
theorem tk_33:tkOf Try.prog 33=some (TK.struct 22 [(0,1,false),(1,12,true),(13,5,true),(18,1,false),(19,1,false),(20,1,false),(21,1,false)]):=by kernel_rfl
theorem tk_35:tkOf Try.prog 35=some (TK.slice 73 5 16):=by kernel_rfl
theorem tk_37:tkOf Try.prog 37=some (TK.struct 3 [(0,1,false),(1,1,false),(2,1,false)]):=by kernel_rfl
theorem tk_39:tkOf Try.prog 39=some (TK.struct 5 [(0,3,true),(3,1,false),(4,1,false)]):=by kernel_rfl
theorem tk_41:tkOf Try.prog 41=some (TK.struct 14 [(0,1,false),(1,5,true),(6,5,true),(11,1,false),(12,1,false),(13,1,false)]):=by kernel_rfl
theorem tk_43:tkOf Try.prog 43=some (TK.slice 64 3 24):=by kernel_rfl
theorem tk_45:tkOf Try.prog 45=some (TK.struct 5 [(0,1,false),(1,1,false),(2,1,false),(3,1,false),(4,1,false)]):=by kernel_rfl
theorem tk_46:tkOf Try.prog 46=some (TK.int IntKind.i64):=by kernel_rfl
theorem tk_51:tkOf Try.prog 51=some (TK.slice 5 1 1):=by kernel_rfl
theorem tk_52:tkOf Try.prog 52=some (TK.ptr 4):=by kernel_rfl
theorem tk_58:tkOf Try.prog 58=some (TK.struct 13 [(0,1,false),(1,1,false),(2,8,true),(10,1,false),(11,1,false),(12,1,false)]):=by kernel_rfl
theorem tk_64:tkOf Try.prog 64=some (TK.struct 3 [(0,1,false),(1,1,false),(2,1,false)]):=by kernel_rfl
theorem tk_69:tkOf Try.prog 69=some (TK.slice 3 1 8):=by kernel_rfl
theorem tk_73:tkOf Try.prog 73=some (TK.struct 5 [(0,1,false),(1,1,false),(2,1,false),(3,1,false),(4,1,false)]):=by kernel_rfl
theorem tk_103:tkOf Try.prog 103=some (TK.slice 113 17 136):=by kernel_rfl
theorem tk_108:tkOf Try.prog 108=some (TK.struct 3 [(0,1,false),(1,1,false),(2,1,false)]):=by kernel_rfl
theorem tk_110:tkOf Try.prog 110=some (TK.struct 2 [(0,1,false),(1,1,false)]):=by kernel_rfl
theorem tk_111:tkOf Try.prog 111=some (TK.array 110 8 2 true):=by kernel_rfl
theorem tk_113:tkOf Try.prog 113=some (TK.struct 17 [(0,1,false),(1,16,true)]):=by kernel_rfl
theorem tk_120:tkOf Try.prog 120=some (TK.ptr 2):=by kernel_rfl
theorem tk_123:tkOf Try.prog 123=some TK.func:=by kernel_rfl
theorem tk_125:tkOf Try.prog 125=some (TK.struct 4 [(0,1,false),(1,1,false),(2,1,false),(3,1,false)]):=by kernel_rfl
theorem tk_127:tkOf Try.prog 127=some TK.func:=by kernel_rfl
theorem tk_128:tkOf Try.prog 128=some TK.func:=by kernel_rfl
theorem tk_152:tkOf Try.prog 152=some TK.func:=by kernel_rfl
theorem tk_153:tkOf Try.prog 153=some TK.func:=by kernel_rfl
theorem tk_155:tkOf Try.prog 155=some (TK.struct 5 [(0,1,false),(1,1,false),(2,1,false),(3,1,false),(4,1,false)]):=by kernel_rfl
theorem tk_157:tkOf Try.prog 157=some (TK.ptr 23):=by kernel_rfl
theorem tk_161:tkOf Try.prog 161=some (TK.struct 2 [(0,1,false),(1,1,false)]):=by kernel_rfl
theorem tk_162:tkOf Try.prog 162=some TK.func:=by kernel_rfl
theorem tk_164:tkOf Try.prog 164=some (TK.struct 23 [(0,13,true),(13,5,true),(18,5,true)]):=by kernel_rfl
theorem tk_178:tkOf Try.prog 178=some TK.func:=by kernel_rfl
theorem tk_184:tkOf Try.prog 184=some TK.func:=by kernel_rfl
theorem tk_185:tkOf Try.prog 185=some TK.func:=by kernel_rfl
theorem tk_193:tkOf Try.prog 193=some (TK.ptr 1):=by kernel_rfl
theorem tk_194:tkOf Try.prog 194=some (TK.slice 193 1 8):=by kernel_rfl
theorem tk_199:tkOf Try.prog 199=some (TK.array 5 3 1 false):=by kernel_rfl
theorem tk_201:tkOf Try.prog 201=some TK.func:=by kernel_rfl
theorem tk_205:tkOf Try.prog 205=some (TK.struct 2 [(0,1,false),(1,1,false)]):=by kernel_rfl
theorem tk_206:tkOf Try.prog 206=some (TK.array 205 11 2 true):=by kernel_rfl
theorem tk_209:tkOf Try.prog 209=some TK.func:=by kernel_rfl
theorem tk_211:tkOf Try.prog 211=some (TK.struct 2 [(0,1,false),(1,1,false)]):=by kernel_rfl
theorem tk_212:tkOf Try.prog 212=some (TK.array 211 11 2 true):=by kernel_rfl
theorem tk_218:tkOf Try.prog 218=some (TK.ptr 1):=by kernel_rfl
theorem tk_224:tkOf Try.prog 224=some (TK.struct 2 [(0,1,false),(1,1,false)]):=by kernel_rfl
theorem tk_225:tkOf Try.prog 225=some (TK.array 224 18 2 true):=by kernel_rfl
theorem tk_235:tkOf Try.prog 235=some (TK.int IntKind.u64):=by kernel_rfl
theorem tk_236:tkOf Try.prog 236=some (TK.slice 28 1 8):=by kernel_rfl
theorem zs_ok:zsOk Try.prog zs:=⟨zo_1,zo_2,zo_3,zo_4,zo_5,zo_6,zo_9,zo_21,zo_22,zo_23,zo_24,zo_25,zo_27,zo_28,zo_30,zo_31,zo_33,zo_35,zo_37,zo_39,zo_41,zo_43,zo_45,zo_46,zo_51,zo_52,zo_58,zo_64,zo_69,zo_73,zo_103,zo_108,zo_110,zo_111,zo_113,zo_120,zo_123,zo_125,zo_127,zo_128,zo_152,zo_153,zo_155,zo_157,zo_161,zo_162,zo_164,zo_178,zo_184,zo_185,zo_193,zo_194,zo_199,zo_201,zo_205,zo_206,zo_209,zo_211,zo_212,zo_218,zo_224,zo_225,zo_235,zo_236,trivial⟩
theorem tys_ok:tysOk Try.prog tys:=⟨tk_1,tk_2,tk_3,tk_4,tk_5,tk_6,tk_9,tk_21,tk_22,tk_23,tk_24,tk_25,tk_27,tk_28,tk_30,tk_31,tk_33,tk_35,tk_37,tk_39,tk_41,tk_43,tk_45,tk_46,tk_51,tk_52,tk_58,tk_64,tk_69,tk_73,tk_103,tk_108,tk_110,tk_111,tk_113,tk_120,tk_123,tk_125,tk_127,tk_128,tk_152,tk_153,tk_155,tk_157,tk_161,tk_162,tk_164,tk_178,tk_184,tk_185,tk_193,tk_194,tk_199,tk_201,tk_205,tk_206,tk_209,tk_211,tk_212,tk_218,tk_224,tk_225,tk_235,tk_236,trivial⟩
theorem eb_23:etB Try.prog 23 (.arr 8 1 (.int .i64))=true:=by kernel_rfl
theorem eb_30:etB Try.prog 30 (.struct [.int .u64,.int .i64,.int .i64,.int .i64,.int .i64])=true:=by kernel_rfl
theorem eb_37:etB Try.prog 37 (.struct [.int .i64,.int .i64,.int .i64])=true:=by kernel_rfl
theorem eb_39:etB Try.prog 39 (.struct [.struct [.int .i64,.int .i64,.int .i64],.int .i64,.int .i64])=true:=by kernel_rfl
theorem eb_64:etB Try.prog 64 (.struct [.int .i64,.int .i64,.int .i64])=true:=by kernel_rfl
theorem eb_73:etB Try.prog 73 (.struct [.int .u8,.int .u8,.int .u8,.int .u8,.int .i64])=true:=by kernel_rfl
theorem eb_108:etB Try.prog 108 (.struct [.int .i64,.int .i64,.int .i64])=true:=by kernel_rfl
theorem eb_110:etB Try.prog 110 (.struct [.bool,.int .i64])=true:=by kernel_rfl
theorem eb_111:etB Try.prog 111 (.arr 8 2 (.struct [.bool,.int .i64]))=true:=by kernel_rfl
theorem eb_113:etB Try.prog 113 (.struct [.bool,.arr 8 2 (.struct [.bool,.int .i64])])=true:=by kernel_rfl
theorem eb_155:etB Try.prog 155 (.struct [.int .u8,.int .u8,.int .u8,.int .u8,.int .i64])=true:=by kernel_rfl
theorem eb_199:etB Try.prog 199 (.arr 3 1 (.int .u8))=true:=by kernel_rfl
theorem ets_ok:etsOk Try.prog ets:=⟨eb_23,eb_30,eb_37,eb_39,eb_64,eb_73,eb_108,eb_110,eb_111,eb_113,eb_155,eb_199,trivial⟩
theorem za_:TabOk Try.prog tab:=tabOk tys_ok zs_ok ets_ok
end Go.Proofs.Ytjliakjbdcplcaa.Vm
end
section
namespace Go.Proofs.Ytjliakjbdcplcaa
open Go.RowKit
theorem block_of_add (a:Addr)(n:Nat):(a.add n).block=a.block:=by unfold Addr.add;split<;>rfl
def yh_ (w:World)(B size:Nat)(A:Option Addr)(n:Nat)(xs:List Value):Prop:=
 xs.length=n*size∧(0 < n→∃ad,A=some ad∧ad.block < B∧∀j u,xs[j]? = some u→w.cell? (ad.add j)=some u)
section
variable {w w':World} {B B' size n:Nat} {A:Option Addr} {xs:List Value}
theorem yh_.none_:yh_ w B size A 0 []:=⟨by simp,fun h=>absurd h (by omega)⟩
theorem yh_.at_ {k:Nat}(h:yh_ w B 1 A n xs)(hk:k < n):∃ad u,A=some ad∧ad.block < B∧xs[k]? = some u∧w.cell? (ad.add k)=some u:=by
 obtain⟨ad,e,hb,hc⟩:=h.2 (by omega)
 have hl:k < xs.length:=by have:=h.1;omega
 exact⟨ad,xs[k],e,hb,List.getElem?_eq_getElem hl,hc k _ (List.getElem?_eq_getElem hl)⟩
theorem yh_.keep (h:yh_ w B size A n xs)(hk:∀p:Addr,p.block < B→w'.cell? p=w.cell? p):yh_ w' B size A n xs:=
 ⟨h.1,fun hn=>by
  obtain⟨ad,e,hb,hc⟩:=h.2 hn
  exact⟨ad,e,hb,fun j u hu=>(hk _ (by rw[block_of_add];exact hb)).trans (hc j u hu)⟩⟩
theorem yh_.more (h:yh_ w B size A n xs)(hB:B≤B'):yh_ w B' size A n xs:=
 ⟨h.1,fun hn=>by
  obtain⟨ad,e,hb,hc⟩:=h.2 hn
  exact⟨ad,e,by omega,hc⟩⟩
theorem yh_.below (h:yh_ w B size A n xs)(hb:Below B w w'):yh_ w' B size A n xs:=h.keep fun _ hp=>hb.cell hp
theorem yh_.drew (h:yh_ w B size A n xs):yh_ w.drew B size A n xs:=h
theorem yh_.alloc (h:yh_ w B size A n xs)(hB:B≤w.heap.size)(o:Obj):yh_ (w.alloc o) B size A n xs:=h.keep fun p hp=>World.cell?_alloc_lt w o p (by omega)
theorem yh_.setCell (h:yh_ w B size A n xs){p:Addr}(hB:B≤p.block)(u:Value):yh_ (w.setCell p u) B size A n xs:=
 h.keep fun q hq=>World.cell?_setCell_other w p q u (fun e=>by subst e;omega)
theorem yh_.grown (h:yh_ w B size A n xs){row:Option Nat}(hg:w.grownBy w' row)(hB:B≤w.heap.size)(hr:∀g,row=some g→B≤g):yh_ w' B size A n xs:=
 h.keep fun p hp=>World.cell?_of_block (hg.block p.block (by omega) (fun e=>by have:=hr _ e.symm;omega))
end
def Blk (w:World)(g:Nat)(t:TypeId)(cs:Array Value):Prop:=w.heap[g]? = some (.cells cs t (0,0))
section
variable {w w':World} {g:Nat} {t:TypeId} {cs:Array Value}
theorem Blk.lt (h:Blk w g t cs):g < w.heap.size:=by
 rcases Nat.lt_or_ge g w.heap.size with hlt|hge
 ·exact hlt
 ·unfold Blk at h;rw[Array.getElem?_eq_none hge]at h;cases h
theorem Blk.cell (h:Blk w g t cs)(i:Nat):w.cell? ⟨g,i,none⟩=cs[i]? := cell_of_row w g i cs t (0,0) h
theorem Blk.frozen (h:Blk w g t cs)(i:Nat):w.frozen? ⟨g,i,none⟩=false:=by
 unfold Blk at h
 simp[World.frozen?,h]
theorem Blk.new (w:World)(t:TypeId)(cs:Array Value):Blk (w.alloc (.cells cs t)) w.heap.size t cs:=heap_alloc_new w _
theorem Blk.drew (h:Blk w g t cs):Blk w.drew g t cs:=h
theorem Blk.alloc (h:Blk w g t cs)(o:Obj):Blk (w.alloc o) g t cs:=(Below.heap_alloc w o g h.lt).trans h
theorem Blk.set_ (h:Blk w g t cs)(i:Nat)(u:Value):Blk (w.setCell ⟨g,i,none⟩ u) g t (cs.setIfInBounds i u):=by
 unfold Blk at h ⊢
 simp[World.setCell,Array.getElem?_modify,h]
theorem Blk.far (h:Blk w g t cs){p:Addr}(hp:g≠p.block)(u:Value):Blk (w.setCell p u) g t cs:=(Below.heap_setCell w p u g hp).trans h
theorem Blk.below {B:Nat}(h:Blk w g t cs)(hb:Below B w w')(hg:g < B):Blk w' g t cs:=(hb.block g hg).trans h
theorem Blk.grown {row:Option Nat}(h:Blk w g t cs)(hb:w.grownBy w' row)(hg:some g≠row):Blk w' g t cs:=(hb.block g h.lt hg).trans h
end
section
variable {P:Program} (w:World)
theorem run_append_of_nil (base:Nat)(t ty e:TypeId)(i:TypeInfo)(size:Nat)(ht:P.underlying t=some (.slice e))(hi:P.info? e=some i)
  (v:Value) (n:Nat) (xs:List Value) (hown:w.ownsRow base e size v n xs) (c:Nat):(Builtin.append_ #[t,t] ty #[v,.slice none 0 c]).run P w=.ok v w:=by
 rcases hown.2 with ⟨rfl,rfl⟩|⟨g,cap,cur,rfl,_,_,hnc,_⟩
 ·simp[Builtin.append_,run_underlying ht,sizeOf,typeInfo,hi,Builtin.lenOf,Builtin.firstCells]
 ·simp[Builtin.append_,run_underlying ht,sizeOf,typeInfo,hi,Builtin.lenOf,Builtin.firstCells,hnc,storeCells]
theorem run_append_any (base:Nat)(t ty e:TypeId)(i:TypeInfo)(z:Value)(size bytes:Nat)(ht:P.underlying t=some (.slice e))(hi:P.info? e=some i)(hz:i.zero=some z)
  (hsize:i.size=size) (hby:i.bytes=bytes) (hzs:z.cells.size=size) (hsz:0 < size)
  (v:Value) (n:Nat) (xs:List Value) (hown:w.ownsRow base e size v n xs)
  (B:Nat) (A:Option Addr) (m c:Nat) (news:List Value) (hr:yh_ w B size A m news) (h1:∀u∈news,u.oneCell'=true)
  (h63:n+m≤maxLen) (hbytes:(n+m)*bytes≤140737488355328) (hbase:base≤w.heap.size) :
  ∃v' w',(Builtin.append_ #[t,t] ty #[v,.slice A m c]).run P w=.ok v' w'∧w'.ownsRow base e size v' (n+m) (xs++news)∧w.grownBy w' v.ownBlock ∧
   (v'.ownBlock=v.ownBlock∨v'.ownBlock=some w.heap.size):=by
 rcases A with _|ad
 ·have hm:m=0:=by
   rcases Nat.eq_zero_or_pos m with h0|h0
   ·exact h0
   ·obtain⟨ad,h,_⟩:=hr.2 h0
    cases h
  subst hm
  have hn:news=[]:=List.eq_nil_of_length_eq_zero (by simpa using hr.1)
  subst hn
  exact⟨v,w,run_append_of_nil w base t ty e i size ht hi v n xs hown c,by simpa using hown,World.grownBy.refl w _,.inl rfl⟩
 ·have hcells:∀j u,news[j]? = some u→w.cell? (ad.add j)=some u:=by
   intro j u hu
   rcases Nat.eq_zero_or_pos m with h0|h0
   ·subst h0
    have hn:news=[]:=List.eq_nil_of_length_eq_zero (by simpa using hr.1)
    subst hn
    simp at hu
   ·obtain⟨ad',h,_,hc⟩:=hr.2 h0
    injection h with h
    subst h
    exact hc j u hu
  obtain⟨v',w',hrun,h2,h3,_,h5⟩:=run_append_own_at (P:=P) w base t ty e i z size bytes ht hi hz hsize hby hzs hsz v n xs hown ad m c news hr.1 hcells h1 h63 hbytes hbase
  exact⟨v',w',hrun,h2,h3,h5⟩
theorem wp_append_any {o:Oper}{a:Act}{K:Act→World→Prop}{Q:Exit→Act→World→Prop}(s x:Operand)(t:TypeId)
  (ho:o.op=.call { callee:=.builtin .append,args:=#[s,x],argTypes:=#[t,t] })
  (base:Nat) (e:TypeId) (i:TypeInfo) (z:Value) (size bytes:Nat) (ht:P.underlying t=some (.slice e)) (hi:P.info? e=some i) (hz:i.zero=some z)
  (hsize:i.size=size) (hby:i.bytes=bytes) (hzs:z.cells.size=size) (hsz:0 < size)
  (v:Value) (n:Nat) (xs:List Value) (hs:a.eval s=v) (hown:w.ownsRow base e size v n xs)
  (B:Nat) (A:Option Addr) (m c:Nat) (news:List Value) (hx:a.eval x=.slice A m c) (hr:yh_ w B size A m news) (h1:∀u∈news,u.oneCell'=true)
  (h63:n+m≤maxLen) (hbytes:(n+m)*bytes≤140737488355328) (hbase:base≤w.heap.size)
  (h:∀v' w',w'.ownsRow base e size v' (n+m) (xs++news)→w.grownBy w' v.ownBlock→(v'.ownBlock=v.ownBlock∨v'.ownBlock=some w.heap.size)→K (a.put o.dst v') w'):o.wp P a w K Q:=by
 obtain⟨v',w',hrun,h2,h3,h4⟩:=run_append_any (P:=P) w base t o.type e i z size bytes ht hi hz hsize hby hzs hsz v n xs hown B A m c news hr h1 h63 hbytes hbase
 unfold Oper.wp execOp
 simp only[ho,resolve,invoke,builtin,Sem.run_bind,Sem.run_pure,Result.andThen_ok,List.map_toArray,List.map_cons,List.map_nil,hs,hx,hrun]
 exact h v' w' h2 h3 h4
theorem wpList_append_any {ops:Array Oper}{rest:List Oper}{o:Oper}{a:Act}{Q:Exit→Act→World→Prop}(hgd:o.guard=none)(s x:Operand)(t:TypeId)
  (ho:o.op=.call { callee:=.builtin .append,args:=#[s,x],argTypes:=#[t,t] })
  (base:Nat) (e:TypeId) (i:TypeInfo) (z:Value) (size bytes:Nat) (ht:P.underlying t=some (.slice e)) (hi:P.info? e=some i) (hz:i.zero=some z)
  (hsize:i.size=size) (hby:i.bytes=bytes) (hzs:z.cells.size=size) (hsz:0 < size)
  (v:Value) (n:Nat) (xs:List Value) (hs:a.eval s=v) (hown:w.ownsRow base e size v n xs)
  (B:Nat) (A:Option Addr) (m c:Nat) (news:List Value) (hx:a.eval x=.slice A m c) (hr:yh_ w B size A m news) (h1:∀u∈news,u.oneCell'=true)
  (h63:n+m≤maxLen) (hbytes:(n+m)*bytes≤140737488355328) (hbase:base≤w.heap.size)
  (h:∀v' w',w'.ownsRow base e size v' (n+m) (xs++news)→w.grownBy w' v.ownBlock→(v'.ownBlock=v.ownBlock∨v'.ownBlock=some w.heap.size)→wpList P ops Q rest (a.put o.dst v') w'):wpList P ops Q (o::rest) a w:=
 wpList_plain hgd fun _ hK=>wp_append_any w s x t ho base e i z size bytes ht hi hz hsize hby hzs hsz v n xs hs hown B A m c news hx hr h1 h63 hbytes hbase fun v' w' h2 h3 h4=>hK _ _ (h v' w' h2 h3 h4)
end
theorem eql_nil {P:Program}(w:World)(t e:TypeId)(a:Option Addr)(n c:Nat)(h:P.underlying t=some (.slice e)):(binOp .eql t (.slice a n c) (.slice none 0 0)).run P w=.ok (.bool a.isNone) w:=by
 simp only[binOp]
 simp[Op.equal,Op.maxDepth,Lib.run_equalIn_slice_nil w 9999 t e a n c 0 0 h]
end Go.Proofs.Ytjliakjbdcplcaa
end
section
namespace Go.Proofs.Ytjliakjbdcplcaa
open Go.RowKit
theorem flat_at {α : Type}(f:α→List Value)(k:Nat)(hf:∀x,(f x).length=k):∀(l:List α) (i j:Nat) (x:α),l[i]? = some x→j < k→(l.flatMap f)[i*k+j]? =(f x)[j]? := by
 intro l
 induction l with
 | nil=>intro i j x h;simp at h
 | cons y l ih=>
  intro i j x h hj
  rw[List.flatMap_cons]
  cases i with
  | zero=>
   simp at h;subst h
   rw[List.getElem?_append_left (by rw[hf];omega)]
   simp
  | succ i=>
   rw[List.getElem?_append_right (by rw[hf,Nat.succ_mul];omega),hf,show (i+1)*k+j - k=i*k+j by rw[Nat.succ_mul];omega]
   exact ih i j x (by simpa using h) hj
theorem flat_len {α : Type}(f:α→List Value)(k:Nat)(hf:∀x,(f x).length=k)(l:List α):(l.flatMap f).length=l.length*k:=by
 induction l with
 | nil=>simp
 | cons y l ih=>rw[List.flatMap_cons,List.length_append,hf,ih,List.length_cons,Nat.succ_mul];omega
theorem yh_.form {w:World}{B k n:Nat}{A:Option Addr}{xs:List Value}(h:yh_ w B k A n xs)(hn:0 < n)(hk:0 < k):∃b off,A=some ⟨b,off,none⟩∧b < B∧∀j u,xs[j]? = some u→w.cell? ⟨b,off+j,none⟩=some u:=by
 obtain⟨ad,rfl,hb,hc⟩:=h.2 hn
 have hl:0 < xs.length:=by rw[h.1];exact Nat.mul_pos hn hk
 have h0:=hc 0 _ (List.getElem?_eq_getElem hl)
 obtain⟨b,off,sp⟩:=ad
 have hs:sp=none:=by
  cases sp with
  | none=>rfl
  | some q=>simp[Addr.add,World.cell?]at h0;split at h0<;>simp at h0
 subst hs
 refine⟨b,off,rfl,hb,fun j u hu=>?_⟩
 rw[←hc j u hu,Addr.add_lit]
def int64s (xs:List Int):List Value:=xs.map (Value.int .i64)
theorem yh_.i64_len {w:World}{B n:Nat}{A:Option Addr}{xs:List Int}(h:yh_ w B 1 A n (int64s xs)):xs.length=n:=by have:=h.1;simpa [int64s]using this
structure Snd where
 port:Int
 delay:Int
 value:Int
deriving DecidableEq
def Snd.cells (s:Snd):List Value:=[.int .i64 s.port,.int .i64 s.delay,.int .i64 s.value]
def Snd.v (s:Snd):Value:=.agg #[.int .i64 s.port,.int .i64 s.delay,.int .i64 s.value]
def sndsV (l:List Snd):List Value:=l.flatMap Snd.cells
def insV (l:List Ins):List Value:=l.flatMap Ins.cells
theorem insV_len (l:List Ins):(insV l).length=l.length*5:=flat_len Ins.cells 5 (fun _=>rfl) l
theorem yh_.ins_len {w:World}{B n:Nat}{A:Option Addr}{l:List Ins}(h:yh_ w B 5 A n (insV l)):l.length=n:=by have:=h.1;rw[insV_len]at this;omega
theorem yh_.ins_at {w:World}{B n:Nat}{A:Option Addr}{l:List Ins}{k:Nat}(h:yh_ w B 5 A n (insV l))(hk:k < n):∃b off s,A=some ⟨b,off,none⟩∧b < B∧l[k]? = some s ∧
  w.cell? ⟨b,off+k*5,none⟩=some (.int .u8 s.op)∧w.cell? ⟨b,off+k*5+1,none⟩=some (.int .u8 s.a)∧w.cell? ⟨b,off+k*5+2,none⟩=some (.int .u8 s.b)∧w.cell? ⟨b,off+k*5+3,none⟩=some (.int .u8 s.c)∧w.cell? ⟨b,off+k*5+4,none⟩=some (.int .i64 s.n):=by
 obtain⟨b,off,rfl,hb,hc⟩:=h.form (by omega) (by omega)
 have hl:k < l.length:=by rw[h.ins_len];exact hk
 have hx:=List.getElem?_eq_getElem hl
 exact ⟨b,off,l[k],rfl,hb,hx,hc (k*5+0) _ (flat_at Ins.cells 5 (fun _=>rfl) l k 0 _ hx (by omega)),
  hc (k*5+1) _ (flat_at Ins.cells 5 (fun _=>rfl) l k 1 _ hx (by omega)),hc (k*5+2) _ (flat_at Ins.cells 5 (fun _=>rfl) l k 2 _ hx (by omega)),
  hc (k*5+3) _ (flat_at Ins.cells 5 (fun _=>rfl) l k 3 _ hx (by omega)),hc (k*5+4) _ (flat_at Ins.cells 5 (fun _=>rfl) l k 4 _ hx (by omega))⟩
end Go.Proofs.Ytjliakjbdcplcaa
end
section
namespace Go.Proofs.Ytjliakjbdcplcaa.Vm
open Go.RowKit
def iOf:SV→Int
 | .int _ n=>n
 | .nat _ n=>(n:Int)
 | _=>0
def isI (k:IntKind):SV→Bool
 | .int k' _=>keq k k'
 | .nat k' _=>keq k k'
 | _=>false
theorem zc_ {k:IntKind}{v:SV}{β : Env}(h:isI k v=true):v.den β = .int k (iOf v):=by
 cases v<;>first |(cases h;done) |(have:=keq_eq h;subst this;rfl)
theorem isI_cl {k:IntKind}{v:SV}{β : Env}(h:isI k v=true):v.cl β = [.int k (iOf v)]:=by
 unfold SV.cl;rw[zc_ h];rfl
def zg_:SV→Ins
 | .agg [a,b,c,d,e]=>⟨iOf a,iOf b,iOf c,iOf d,iOf e⟩
 | _=>⟨0,0,0,0,0⟩
def isIns:SV→Bool
 | .agg [a,b,c,d,e]=>isI .u8 a && isI .u8 b && isI .u8 c && isI .u8 d && isI .i64 e
 | _=>false
theorem isIns_cl {v:SV}{β : Env}(h:isIns v=true):v.cl β =(zg_ v).cells:=by
 unfold isIns at h
 split at h
 ·rename_i a b c d e
  simp only[Bool.and_eq_true]at h
  obtain⟨⟨⟨⟨h1,h2⟩,h3⟩,h4⟩,h5⟩:=h
  rw[cl_agg]
  simp only[yf_,clL_nil,isI_cl h1,isI_cl h2,isI_cl h3,isI_cl h4,isI_cl h5,zg_,Ins.cells,List.cons_append,List.nil_append]
 ·cases h
def insS (i:Ins):SV:=.agg [.int .u8 i.op,.int .u8 i.a,.int .u8 i.b,.int .u8 i.c,.int .i64 i.n]
theorem zv_ (i:Ins):zg_ (insS i)=i:=rfl
theorem zy_ (i:Ins):isIns (insS i)=true:=rfl
theorem insS_size (i:Ins):(insS i).size=5:=rfl
def xm_:SV→Snd
 | .agg [a,b,c]=>⟨iOf a,iOf b,iOf c⟩
 | _=>⟨0,0,0⟩
def isSnd:SV→Bool
 | .agg [a,b,c]=>isI .i64 a && isI .i64 b && isI .i64 c
 | _=>false
theorem isSnd_cl {v:SV}{β : Env}(h:isSnd v=true):v.cl β =(xm_ v).cells:=by
 unfold isSnd at h
 split at h
 ·rename_i a b c
  simp only[Bool.and_eq_true]at h
  obtain⟨⟨h1,h2⟩,h3⟩:=h
  rw[cl_agg]
  simp only[yf_,clL_nil,isI_cl h1,isI_cl h2,isI_cl h3,xm_,Snd.cells,List.cons_append,List.nil_append]
 ·cases h
def sndS (s:Snd):SV:=.agg [.int .i64 s.port,.int .i64 s.delay,.int .i64 s.value]
theorem zu_ (s:Snd):xm_ (sndS s)=s:=rfl
theorem zw_ (s:Snd):isSnd (sndS s)=true:=rfl
def ls {α : Type}(g:SV→α)(n:Nat)(f:Nat→SV):List α:=(List.range n).map fun q=>g (f q)
theorem zb_ {α : Type}(g:SV→α)(n:Nat)(f:Nat→SV):(ls g n f).length=n:=by simp[ls]
theorem ls_of {α : Type}{g:SV→α}{e:α→SV}(hg:∀x,g (e x)=x)(l:List α)(d:α):ls g l.length (fun q=>e (l.getD q d))=l:=by
 unfold ls
 apply List.ext_getElem
 ·simp
 ·intro i h1 h2
  simp[hg,h2]
section
variable {P:Program} {w0 w:World} {M:Nat→Prop} {β : Env} {h h':HM}
theorem elems_ls {α : Type}{g:SV→α}{cells:α→List Value}{ok:SV→Bool}(hok:∀{v:SV},ok v=true→v.cl β = cells (g v)){k:Nat}(hk:∀x,(cells x).length=k){n:Nat}{f:Nat→SV}(hf:∀q,q < n→ok (f q)=true):zx_ β k n f=(ls g n f).flatMap cells:=by
 unfold zx_ ls
 rw[List.flatMap_map,List.flatMap_def,List.flatMap_def]
 congr 1
 exact List.map_congr_left fun q hq=>by rw[hok (hf q (List.mem_range.1 hq)),fit_eq (hk _)]
theorem elems_ins {n:Nat}{f:Nat→SV}(hf:∀q,q < n→isIns (f q)=true):zx_ β 5 n f=insV (ls zg_ n f):=elems_ls isIns_cl (fun _=>rfl) hf
theorem elems_snd {n:Nat}{f:Nat→SV}(hf:∀q,q < n→isSnd (f q)=true):zx_ β 3 n f=sndsV (ls xm_ n f):=elems_ls isSnd_cl (fun _=>rfl) hf
theorem elems_i64 {n:Nat}{f:Nat→SV}(hf:∀q,q < n→isI .i64 (f q)=true):zx_ β 1 n f=int64s (ls iOf n f):=by
 rw[elems_ls (cells:=fun x=>[.int .i64 x]) isI_cl (fun _=>rfl) hf]
 unfold int64s
 rw[List.flatMap_def]
 induction ls iOf n f with
 | nil=>rfl
 | cons x l ih=>simp[ih]
theorem Rep.below (R:Rep w0 M β h w){w':World}(hb:Below w.heap.size w w'):Rep w0 M β h w':=R.keep hb.os hb.tape hb.output hb.size hb.block
theorem Rep.made (R:Rep w0 M β h w){B:Nat}{m k t n:Nat}{v:Value}{xs:List Value}{f:Nat→SV}(hm:h m=.dead)(ho:w.ownsRow B t k v n xs)(hB:w0.heap.size≤B)(hx:zx_ β k n f=xs)(hf:∀q,Stable h (f q))
  (hd:∀g i a',v.ownBlock=some g→(h i).mine=true→(β i).1=some a'→a'.block≠g) :
  ∃e,Rep w0 M (setE β m e) (upd h m (.own t (.arr n k f) false)) w∧v=(SV.sl m m [] k 0 n none).den (setE β m e):=by
 obtain⟨hl,⟨rfl,rfl⟩|⟨g,cap,cur,rfl,hb,hg,hn,hc,hs,ht⟩⟩:=ho
 ·exact⟨(none,0),nothing R hm hf,by simp[SV.den,z2_]⟩
 ·refine⟨(some ⟨g,0,none⟩,cap),R.birth m hm _ _ (by simp only[HB.stable,Stable];exact fun q=>Stable.upd (hf q) rfl) rfl (.inl ⟨g,cur,by rw[z2_],hg,⟨cur.toList.drop (n*k),?_,fun h=>by cases h⟩,fun n' k' f' hv=>?_⟩) (fun a _ ha=>?_) (fun v a hv=>by cases hv),(sl_new hn).symm⟩
  ·have hst:Stable h (.arr n k f):=by simp only[Stable];exact hf
   rw[←hst.cl (z4_ hm),cl_arr',hx,←ht]
   exact(List.take_append_drop _ _).symm
  ·injection hv with h1 h2 _
   subst h1 h2
   rw[z2_]
   exact⟨hn,hs⟩
  ·injection ha with ha
   subst ha
   exact⟨.inl (Nat.le_trans hB hb),(Array.getElem?_eq_some_iff.1 hg).1,fun i a' hi hai=>hd g i a' rfl hi hai⟩
end
end Go.Proofs.Ytjliakjbdcplcaa.Vm
end
section
namespace Go.Proofs.Ytjliakjbdcplcaa.Vm
open Go.RowKit
def FR (ro:Option Nat):Fence:={ Fence.wide with round:=ro }
theorem callsIn_FR {ro:Option Nat}{n:Nat}{P:Program}{f:FuncId}{args:Array Value}{w:World}{R:Ending→World→Prop}(h:Calls P f args w R):CallsIn (FR ro) n P f args w R:=by
 have h1:CallsIn Fence.wide n P f args w R:=callsIn_wide.2 h
 exact h1
theorem stepsIn_FR {ro:Option Nat}{P:Program}{m m':Machine}(h:Steps P m m'):StepsIn (Machine.fenced P (FR ro)) P m m':=by
 have h1:StepsIn (Machine.fenced P Fence.wide) P m m':=stepsIn_wide.2 h
 exact h1
theorem rowsIn_FR {ro:Option Nat}{n:Nat}{P:Program}{row:String}{args:Array Value}{w:World}{R:Value→World→Prop}(h:Rows P row args w R):RowsIn (FR ro) n P row args w R:=
 fun c cs _=>by
  obtain⟨v,w',h1,h2⟩:=h c cs
  exact⟨v,w',h1,stepsIn_FR h2⟩
def xa_ (ops:List Oper):Bool:=ops.all fun o=>match o.op with | .defer _=>false|_=>true
theorem noDefer_spec {ops:List Oper}(h:xa_ ops=true):∀o∈ops,∀c,o.op≠.defer c:=fun o ho c e=>by
 simp only[xa_,List.all_eq_true]at h
 have:=h o ho
 rw[e]at this
 cases this
section
variable {P:Program} {ro:Option Nat} {n:Nat} {Q:Exit→Act→World→Prop} {K K':Act→World→Prop} {o:Oper} {a:Act} {w:World}
theorem upon_in {r:Result Next}(hq:¬LetsOut Q)(hk:∀a w,K a w→K' a w)(h:o.upon P a K Q r):o.uponIn (FR ro) n P a K' Q r:=by
 have nd:((FR ro).depth.isSome=true→1≤n):=fun h=>by cases h
 cases r with
 | ok x w'=>
  cases x with
  | value v=>exact hk _ _ h
  | skip=>exact hk _ _ h
  | defer d=>exact hk _ _ h
  | enter f args=>
   refine⟨nd,(callsIn_FR h).mono fun e w'' he=>?_⟩
   cases e with
   | returned v=>exact hk _ _ he
   | panicked c=>exact he
   | outgrown=>exact he
  | row row args=>exact⟨nd,(rowsIn_FR h).mono fun v w'' he=>hk _ _ he⟩
  | _=>exact h.elim
 | halt x w'=>
  cases x with
  | panic v=>exact h
  | _=>exact h.elim
theorem wpOps_in {ops:Array Oper}(hd:xa_ ops.toList=true)(hq:¬LetsOut Q):∀{is:List Nat} {a:Act} {w:World},wpOps P ops Q is a w→wpOpsIn (FR ro) n P ops Q is a w:=by
 intro is
 induction is with
 | nil=>exact fun h=>h
 | cons i rest ih=>
  intro a w h
  simp only[wpOps]at h
  simp only[wpOpsIn]
  cases ho:ops[i]? with
  | none=>simp only[ho]at h ⊢;exact ih h
  | some o=>
   simp only[ho]at h ⊢
   by_cases hw:Region.wanted o (yielded ops a.tmps)=true
   ·simp only[hw,if_true]at h ⊢
    rcases h with h|⟨_,h⟩
    ·refine⟨fun _ _=>trivial,?_⟩
     have hs:=Oper.semAt_eq (FR ro).round a.eval o (noDefer_spec hd o (by rw[←Array.getElem?_toList]at ho;exact List.mem_of_getElem? ho))
     rw[hs]
     exact upon_in hq (fun a w=>ih) h
    ·exact absurd h hq
   ·simp only[hw,if_false,Bool.false_eq_true]at h ⊢
    exact⟨fun _ _=>trivial,ih h⟩
end
def WF (ro:Option Nat)(n:Nat)(P:Program)(c:Code)(w0:World)(M:Nat→Prop)(E:Env)(n0 N:Nat)(D:List Deferred)(φ : Fr)(L:List HB)(Q:Exit→Act→World→Prop):Prop:=∀a w,St w0 M E n0 N D φ L a w→c.wpIn (FR ro) n P Q a w
section
variable {P:Program} {T:Tab} {C:FuncId→Option yr_} {w0:World} {M:Nat→Prop} {E:Env} {n0 N n:Nat} {D:List Deferred} {φ φ2 φ':Fr} {L L2 L':List HB} {Q:Exit→Act→World→Prop} {ro:Option Nat}
theorem WF.seq {x y:Code}(h:WF ro n P x w0 M E n0 N D φ L (Exit.then (y.wpIn (FR ro) n P Q) Q)):WF ro n P (.seq x y) w0 M E n0 N D φ L Q:=fun a w hS=>wpIn_seq (h a w hS)
theorem WF.skip (h:At w0 M E n0 N D φ L (Q .normal)):WF ro n P .skip w0 M E n0 N D φ L Q:=fun a w hS=>wpIn_skip (h a w hS)
theorem WF.exit {id:Nat}(h:At w0 M E n0 N D φ L (Q (.exit id))):WF ro n P (.exit id) w0 M E n0 N D φ L Q:=fun a w hS=>wpIn_exit (h a w hS)
theorem WF.goto {id:Nat}(h:At w0 M E n0 N D φ L (Q (.goto id))):WF ro n P (.goto id) w0 M E n0 N D φ L Q:=fun a w hS=>wpIn_goto (h a w hS)
theorem WF.label {id:Nat}(h:At w0 M E n0 N D φ L (Q .normal)):WF ro n P (.label id) w0 M E n0 N D φ L Q:=fun a w hS=>wpIn_label (h a w hS)
theorem WF.ret (h:At w0 M E n0 N D φ L (Q .ret)):WF ro n P .ret w0 M E n0 N D φ L Q:=fun a w hS=>wpIn_ret (h a w hS)
theorem WF.block {id:Nat}{c:Code}(h:WF ro n P c w0 M E n0 N D φ L (Exit.inBlock id Q)):WF ro n P (.block id c) w0 M E n0 N D φ L Q:=fun a w hS=>wpIn_block (h a w hS)
theorem WF.cond {x:Operand}{c d:Code}{p:Prop}{b:Bool}(he:ev φ x=some (p,.bool b))(hp:p)(ht:b=true→WF ro n P c w0 M E n0 N D φ L Q)(hf:b=false→WF ro n P d w0 M E n0 N D φ L Q):WF ro n P (.cond x c d) w0 M E n0 N D φ L Q:=fun a w hS=>by
 obtain⟨⟨β,hE,R,F⟩,_⟩:=id hS
 have h2:=(ev_spec F R.nil R.nil0 he hp).2
 exact wpIn_cond_split h2 (fun h=>ht h a w hS) (fun h=>hf h a w hS)
theorem WF.sub {c:Code}(hφ : SubF φ φ2)(hL:LessL L L2)(h0:hp L2 0=.gone)(hs:yk_ (hp L2) L2)(hf:StableF (hp L2) φ2)(hb:bornTo n0 L2=true)(h:WF ro n P c w0 M E n0 N D φ2 L2 Q):WF ro n P c w0 M E n0 N D φ L Q:=
 fun a w hS=>h a w (hS.sub hφ hL h0 hs hf hb)
def NormSt (w0:World)(M:Nat→Prop)(E:Env)(n0 N:Nat)(D:List Deferred)(φ : Fr)(L:List HB):Exit→Act→World→Prop
 | .normal,a,w=>St w0 M E n0 N D φ L a w
 | _,_,_=>False
theorem normSt_out:¬LetsOut (NormSt w0 M E n0 N D φ L):=fun⟨_,_,h⟩=>h
theorem WF.region (hC:∀f S,C f=some S→zh_ P f S)(hT:TabOk P T){id:Nat}{ops:Array Oper}{c:Prop}{rs:List Rc}(hd:xa_ ops.toList=true)(hr:runR T C N ops.toList φ L ops.toList=some (c,rs,φ',L'))(hc:c)(h:At w0 M E n0 N D φ' L' (Q .normal)):WF ro n P (.region id ops false) w0 M E n0 N D φ L Q:=
 fun a w hS=>by
  have h1:=wpOps_run (Q:=NormSt w0 M E n0 N D φ' L') (k:=0) hC hT rfl hr hc hS (fun a w h=>h)
  rw[Array.length_toList]at h1
  refine wpIn_mono (wpIn_region (by rw[List.range_eq_range'];exact wpOps_in hd normSt_out h1)) fun e a w he=>?_
  cases e<;>first|exact he.elim|exact h a w he
theorem wpOps_of_drawn (hm:P.follows .mixedOrders=true)(hC:∀f S,C f=some S→zh_ P f S)(hT:TabOk P T){ops:Array Oper}{c:Prop}{rs:List Rc}(hr:runR T C N ops.toList φ L ops.toList=some (c,rs,φ',L'))(hok:regionOk ops.toList rs=true)(hc:c){a:Act}{w:World}
  (hS:St w0 M E n0 N D φ L a w) (hQ:∀a w,St w0 M E n0 N D φ' L' a w→Q .normal a w) (t:Nat):wpOps P ops Q (Region.schedule (P.follows .mixedOrders) ops t) a { w with drawn:=w.drawn+1 }:=by
 simp only[Region.schedule,hm,Bool.true_or,if_true]
 exact wpAny_sound ops.size t _ a _ (wpAny_drawn hm hC hT hr hok hc hS hQ)
theorem WF.drawn (hm:P.follows .mixedOrders=true)(hC:∀f S,C f=some S→zh_ P f S)(hT:TabOk P T){id:Nat}{ops:Array Oper}{c:Prop}{rs:List Rc}(hd:xa_ ops.toList=true)(hr:runR T C N ops.toList φ L ops.toList=some (c,rs,φ',L'))(hok:regionOk ops.toList rs=true)(hc:c)(h:At w0 M E n0 N D φ' L' (Q .normal)):WF ro n P (.region id ops true) w0 M E n0 N D φ L Q:=
 fun a w hS=>by
  refine wpIn_mono (wpIn_region_draw fun t=>wpOps_in hd normSt_out (wpOps_of_drawn (Q:=NormSt w0 M E n0 N D φ' L') hm hC hT hr hok hc hS (fun a w h=>h) t)) fun e a w he=>?_
  cases e<;>first|exact he.elim|exact h a w he
end
end Go.Proofs.Ytjliakjbdcplcaa.Vm
end
section
namespace Go.Proofs.Ytjliakjbdcplcaa.Vm
open Go.RowKit
def mrk (r:Nat):Deferred:={ target:=.collected r,args:=#[] }
def mineSet (β : Env)(h:HM)(g:Nat):Prop:=∃i a,(h i).mine=true∧(β i).1=some a∧a.block=g
section
variable {w0 w1 w2 w:World} {M M1 M2:Nat→Prop} {β : Env} {h:HM} {D D1 D2:List Deferred}
theorem Rep.free (R:Rep w0 M β h w){g:Nat}{o:Obj}(hg:w0.heap.size≤g)(hm:¬mineSet β h g):Rep w0 M β h (w.putObj g o):=
 {os:=R.os,tape:=R.tape,output:=R.output,size:=by rw[World.putObj_size];exact R.size
  frame:=fun k hk hmk=>(World.putObj_heap_other (by omega)).trans (R.frame k hk hmk)
  nil:=R.nil,nil0:=R.nil0,st:=R.st
  blk := fun i => holds_world (R.blk i) fun a ha hk => World.putObj_heap_other (by
   rcases hk with hk|⟨v,hv,hz⟩
   ·exact fun e=>hm ⟨i,a,hk,ha,e⟩
   ·have:=(R.ro i v a hv ha hz).1;omega)
  own:=R.own,ro:=R.ro,dist:=R.dist
  lt:=fun i a hmi ha=>by rw[World.putObj_size];exact R.lt i a hmi ha }
theorem Rep.rawPut (R:Rep w0 M β h w){i g:Nat}{o o':Obj}(hi:h i=.raw o)(hb:(β i).1=some ⟨g,0,none⟩):Rep w0 M β (upd h i (.raw o')) (w.putObj g o'):=by
 have hmi:(h i).mine=true:=by rw[hi];rfl
 have hglt:g < w.heap.size:=R.lt i _ hmi hb
 have mine:∀j,(upd h i (.raw o') j).mine=true→(h j).mine=true:=fun j hj=>by
  unfold upd at hj;split at hj
  ·rename_i e;rw[e];exact hmi
  ·exact hj
 have born:∀j,(h j).born=true→(upd h i (.raw o') j).born=true:=fun j hj=>by
  unfold upd;split
  ·rfl
  ·exact hj
 have hi0:(0:Nat)≠i:=by rintro rfl;rw[R.nil0]at hi;cases hi
 refine { os:=R.os,tape:=R.tape,output:=R.output,size:=by rw[World.putObj_size];exact R.size,frame:=?_,nil:=R.nil,nil0:=by rw[yb_ hi0];exact R.nil0,st:=?_,blk:=?_,own:=fun j a hm ha=>R.own j a (mine j hm) ha,ro:=?_,dist:=fun j k aj ak hne hmj hmk=>R.dist j k aj ak hne (mine j hmj) (mine k hmk),lt:=fun j a hm ha=>by rw[World.putObj_size];exact R.lt j a (mine j hm) ha }
 ·intro k hk hmk
  have:k≠g:=by
   rintro rfl
   rcases R.own i _ hmi hb with h'|h'
   ·simp at h';omega
   ·exact hmk h'
  exact(World.putObj_heap_other this).trans (R.frame k hk hmk)
 ·intro j
  by_cases hj:j=i
  ·subst hj;rw[zs_];trivial
  ·exact k2_
 ·intro j
  by_cases hj:j=i
  ·subst hj;rw[zs_];exact⟨g,hb,World.putObj_heap_same hglt⟩
  ·rw[yb_ hj]
   refine holds_world (R.blk j) fun a ha hk=>World.putObj_heap_other ?_
   rcases hk with hk|⟨v,hv,hz⟩
   ·exact R.dist j i a _ hj hk hmi ha hb
   ·obtain⟨h1,h2⟩:=R.ro j v a hv ha hz
    rintro e
    rcases R.own i _ hmi hb with h'|h'
    ·simp at h';omega
    ·exact h2 (by rw[e];exact h')
 ·intro j v a hv ha hz
  by_cases hj:j=i
  ·subst hj;rw[zs_]at hv;cases hv
  ·rw[yb_ hj]at hv;exact R.ro j v a hv ha hz
theorem Rep.rawNew (R:Rep w0 M β h w){m:Nat}(hm:h m=.dead)(o:Obj):Rep w0 M (setE β m (some ⟨w.heap.size,0,none⟩,0)) (upd h m (.raw o)) (w.alloc o):=by
 have R1:Rep w0 M β h (w.alloc o):=R.keep rfl rfl rfl (by simp) fun g hg=>Below.heap_alloc _ _ g hg
 refine R1.birth m hm _ (.raw o) trivial rfl ⟨w.heap.size,by rw[z2_],World.alloc_heap_new w o⟩ (fun a _ ha=>?_) (fun v a hv=>by cases hv)
 injection ha with ha
 subst ha
 refine⟨.inl R.size,by simp,fun i a' hmi ha'=>?_⟩
 have:=R.lt i a' hmi ha'
 simp only
 omega
theorem Rep.rebase (R:Rep w0 M β h w):Rep w (mineSet β h) β h w:=
 {os:=rfl,tape:=rfl,output:=rfl,size:=Nat.le_refl _,frame:=fun _ _ _=>rfl,nil:=R.nil,nil0:=R.nil0,st:=R.st,blk:=R.blk
  own:=fun i a hm ha=>.inr ⟨i,a,hm,ha,rfl⟩
  ro:=fun i v a hv ha hz=>by
   obtain⟨h1,h2⟩:=R.ro i v a hv ha hz
   refine⟨Nat.lt_of_lt_of_le h1 R.size,fun⟨j,a',hm,ha',e⟩=>?_⟩
   rcases R.own j a' hm ha' with h'|h'
   ·omega
   ·exact h2 (by rw[←e];exact h')
  dist:=R.dist,lt:=R.lt }
structure Anc (w0:World) (M:Nat→Prop) (D:List Deferred) (w1:World) (M1:Nat→Prop) (D1:List Deferred):Prop where
 os:w1.os=w0.os
 tape:w1.tape=w0.tape
 output:w1.output=w0.output
 size:w0.heap.size≤w1.heap.size
 frame:∀g,g < w0.heap.size→¬M g→w1.heap[g]? = w0.heap[g]?∧¬M1 g
 marks:∃rs:List Nat,D1=rs.map mrk++D∧rs.Nodup∧∀r∈rs,w0.heap.size≤r∧r < w1.heap.size∧¬M1 r∧w1.heap[r]? = some (.deferred (some []))
theorem Anc.refl:Anc w0 M D w0 M D:=⟨rfl,rfl,rfl,Nat.le_refl _,fun g _ hm=>⟨rfl,hm⟩,[],rfl,List.nodup_nil,fun _ h=>by cases h⟩
theorem Anc.trans (A:Anc w0 M D w1 M1 D1)(B:Anc w1 M1 D1 w2 M2 D2):Anc w0 M D w2 M2 D2:=by
 obtain⟨r1,d1,n1,k1⟩:=A.marks
 obtain⟨r2,d2,n2,k2⟩:=B.marks
 refine⟨B.os.trans A.os,B.tape.trans A.tape,B.output.trans A.output,Nat.le_trans A.size B.size,fun g hg hm=>?_,r2++r1,by rw[d2,d1,List.map_append,List.append_assoc],?_,fun r hr=>?_⟩
 ·obtain⟨h1,h2⟩:=A.frame g hg hm
  obtain⟨h3,h4⟩:=B.frame g (Nat.lt_of_lt_of_le hg A.size) h2
  exact⟨h3.trans h1,h4⟩
 ·refine List.nodup_append.2 ⟨n2,n1,fun a ha b hb e=>?_⟩
  subst e
  have:=(k2 a ha).1
  have:=(k1 a hb).2.1
  omega
 ·rcases List.mem_append.1 hr with hr|hr
  ·obtain⟨h1,h2,h3,h4⟩:=k2 r hr
   exact⟨Nat.le_trans A.size h1,h2,h3,h4⟩
  ·obtain⟨h1,h2,h3,h4⟩:=k1 r hr
   obtain⟨h5,h6⟩:=B.frame r h2 h3
   exact⟨h1,Nat.lt_of_lt_of_le h2 B.size,h6,h5.trans h4⟩
theorem Rep.anc (R : Rep w0 M β h w) : Anc w0 M D w (mineSet β h) D := ⟨R.os, R.tape, R.output, R.size, fun g hg hm => ⟨R.frame g hg hm,fun⟨i,a,h1,h2,e⟩=>by
 rcases R.own i a h1 h2 with h'|h'
 ·omega
 ·exact hm (by rw[←e];exact h')⟩,[],rfl,List.nodup_nil,fun _ h=>by cases h⟩
theorem Rep.ancMark (R:Rep w0 M β h w){r:Nat}(hr:w0.heap.size≤r)(hm:¬mineSet β h r)(hk:w.heap[r]? = some (.deferred (some []))):Anc w0 M D w (mineSet β h) (mrk r::D):=
 {R.anc (D := D) with marks := ⟨[r],rfl,by simp,fun q hq=>by
   obtain rfl:q=r:=by simpa using hq
   exact⟨hr,(Array.getElem?_eq_some_iff.1 hk).1,hm,hk⟩⟩ }
theorem Rep.back (R:Rep w1 M1 β h w)(A:Anc w0 M D w1 M1 D1)(hro:∀i v a,h i=.ro v→(β i).1=some a→0 < v.size→a.block < w0.heap.size∧¬M a.block):Rep w0 M β h w:=
 {os:=R.os.trans A.os,tape:=R.tape.trans A.tape,output:=R.output.trans A.output,size:=Nat.le_trans A.size R.size
  frame:=fun g hg hm=>by
   obtain⟨h1,h2⟩:=A.frame g hg hm
   exact(R.frame g (Nat.lt_of_lt_of_le hg A.size) h2).trans h1
  nil:=R.nil,nil0:=R.nil0,st:=R.st,blk:=R.blk
  own:=fun i a hm ha=>by
   rcases R.own i a hm ha with h'|h'
   ·exact .inl (Nat.le_trans A.size h')
   ·rcases Nat.lt_or_ge a.block w0.heap.size with hl|hl
    ·by_cases hM:M a.block
     ·exact .inr hM
     ·exact absurd h' (A.frame _ hl hM).2
    ·exact .inl hl
  ro:=hro,dist:=R.dist,lt:=R.lt }
end
def RoOk (w0:World)(M:Nat→Prop)(E:Env)(L:List HB):Prop:=∀i v a,hp L i=.ro v→(E i).1=some a→0 < v.size→a.block < w0.heap.size∧¬M a.block
def notRo:HB→Bool
 | .ro _=>false
 | _=>true
def RoSub:List HB→List HB→Prop
 | [],_=>True
 | x::l,[]=>notRo x=true∧RoSub l []
 | x::l,y::m=>(notRo x=true∨x=y)∧RoSub l m
theorem roSub_spec:∀{L L0:List HB},RoSub L L0→∀i v,hp L i=.ro v→hp L0 i=.ro v∧i < L0.length
 | [],_,_,i,v,h=>by unfold hp at h;simp at h
 | x::l,[],hs,i,v,h=>by
  cases i with
  | zero=>
   have h1:x=.ro v:=h
   rw[h1]at hs
   cases hs.1
  | succ i=>exact absurd (roSub_spec hs.2 i v h).2 (by simp)
 | x::l,y::m,hs,i,v,h=>by
  cases i with
  | zero=>
   have h1:x=.ro v:=h
   rcases hs.1 with h2|h2
   ·rw[h1]at h2;cases h2
   ·exact⟨by rw[h2]at h1;exact h1,by simp⟩
  | succ i=>
   obtain⟨h1,h2⟩:=roSub_spec hs.2 i v h
   exact⟨h1,by simp;omega⟩
section
variable {P:Program} {T:Tab} {w0 w1:World} {M M1:Nat→Prop} {E:Env} {n0 N n:Nat} {D D1:List Deferred} {φ : Fr} {L L2:List HB} {Q:Exit→Act→World→Prop} {ro:Option Nat}
theorem leaves_marks {fn:Func}{tmps:Array Value}{R:Ending→World→Prop}{β : Env}{h:HM}:∀(rs:List Nat) (w:World),Rep w0 M β h w→rs.Nodup→(∀r∈rs,w0.heap.size≤r∧¬mineSet β h r∧w.heap[r]? = some (.deferred (some []))) →
  (∀w',Rep w0 M β h w'→∃v,(results fn tmps).run P w'=.ok v w'∧R (.returned v) w')→LeavesInM (FR none) n P fn tmps R (rs.map mrk) .returning w
 | [],w,HR,_,_,hR=>hR w HR
 | r::rs,w,HR,hn,hk,hR=>by
  obtain⟨h1,h2,h3⟩:=hk r (.head _)
  obtain⟨hn1,hn2⟩:=List.nodup_cons.1 hn
  refine⟨by simp,.inl ⟨r,_,rfl,run_takeDeferred h3,leaves_marks rs _ (HR.free h1 h2) hn2 (fun q hq=>?_) hR⟩⟩
  obtain⟨k1,k2,k3⟩:=hk q (.tail _ hq)
  exact⟨k1,k2,(World.putObj_heap_other (fun e=>hn1 (by rw[←e];exact hq))).trans k3⟩
def EndsM (n:Nat)(P:Program)(fn:Func)(w0:World)(M:Nat→Prop)(E:Env)(n0:Nat)(v:SV)(L:List HB):Exit→Act→World→Prop:=
 bodyPostM (FR none) n P fn fun e w'=>∃β,(∀i,i < n0→β i=E i)∧Rep w0 M β (hp L) w'∧Stable (hp L) v∧e=.returned (v.den β)
theorem At.endsM (hT:TabOk P T){fn:Func}{c:Prop}{vs:List SV}{v:SV}{rs:List ResultVar}{L0:List HB}(A:Anc w0 M [] w1 M1 D1)(hro:RoOk w0 M E L0)(hL0:L0.length≤n0)(hrs:fn.results.toList=rs)(hr:resV T φ (hp L) rs=some (c,vs))(hc:c)(hL:LessL L L2)(h0:hp L2 0=.gone)(hs:yk_ (hp L2) L2)(hsub:RoSub L L0)(hv:∀β,(resS vs).den β = v.den β)(hst:Stable (hp L2) v) :
  At w1 M1 E n0 N D1 φ L (EndsM n P fn w0 M E n0 v L2 .ret):=fun a w hS=>by
 obtain⟨⟨β,hE,R,F⟩,hbn,_,hd⟩:=hS
 subst hrs
 have R0:Rep w0 M β (hp L) w:=R.back A fun i u a hi ha hz=>by
  obtain⟨h1,h2⟩:=roSub_spec hsub i u hi
  exact hro i u a h1 (by rw[←hE i (Nat.lt_of_lt_of_le h2 hL0)];exact ha) hz
 obtain⟨rs,d1,n1,k1⟩:=A.marks
 simp only[EndsM,bodyPostM,hd,d1,List.append_nil]
 refine leaves_marks (β:=β) (h:=hp L) rs w R0 n1 (fun r hr=>?_) (fun w' R'=>?_)
 ·exact d13_
 ·obtain⟨q1,q2⟩:=resV_ok ⟨hT,R',F⟩ hr hc
  exact⟨_,q2,β,hE,R'.less (lessL_spec hL) h0 (xr_ hs),hst,by rw[hv]⟩
theorem zm_ {f:FuncId}{fn:Func}{c:Code}{args:List SV}{L0 L1:List HB}{v:SV}(n0 N n:Nat)(hf:P.funcs[f]? = some fn)(hb:fn.body=some c)(hn0:L0.length=n0)(hN0:fn.ntmps=N)(hbn:bornTo L0.length L0=true)(hst:zd_ (hp L0) args)(hN:Nat.ble args.length fn.ntmps=true)
  (h:∀w0 M E,RoOk w0 M E L0→WF none n P c w0 M E n0 N [] (frameOf 0 args) L0 (EndsM n P fn w0 M E n0 v L1)):yc_ P f args L0 v L1:=by
 subst hn0 hN0
 intro w0 M β w R
 have key:=callsIn_of_wp_marks (F:=FR none) (n:=n) (args:=(denL β args).toArray) (w:=w) (R:=fun e w'=>∃β':Env,(∀i,i < L0.length→β' i = β i)∧Rep w0 M β' (hp L1) w'∧Stable (hp L1) v∧e=.returned (v.den β')) hf hb trivial (h w0 M β (fun i v a hi ha hz=>R.ro i v a hi ha hz) _ w ⟨⟨β,fun _ _=>rfl,R,fun t u hu=>?_⟩,fun i hi=>?_,?_,rfl⟩) rfl
 ·have k2:CallsIn Fence.wide n P f (denL β args).toArray w _:=key
  exact(callsIn_wide.1 k2).mono fun e w' ⟨β',h1,h2,h3,h4⟩=>⟨β',fun i hi=>(h1 i hi).symm,h2,h3,h4⟩
 ·obtain⟨j,rfl,hj⟩:=look_frameOf hu
  rw[Nat.zero_add]
  refine⟨yj_.1 hst _ (List.mem_of_getElem? hj),?_⟩
  have:=denL_get (β:=β) hj
  have hlt:j < (denL β args).length:=by
   rcases Nat.lt_or_ge j (denL β args).length with h|h
   ·exact h
   ·rw[List.getElem?_eq_none h]at this;cases this
  rw[Array.getD_eq_getD_getElem?,Array.getElem?_append_left (by simpa using hlt)]
  simp[this]
 ·simp only[bornTo,List.all_eq_true]at hbn
  exact hbn i (List.mem_range.2 hi)
 ·have hlen:∀l:List SV,(denL β l).length=l.length:=fun l=>by induction l with
   | nil=>rfl
   | cons x l ih=>simp[denL,ih]
  have:=Nat.le_of_ble_eq_true hN
  simp[hlen]
  omega
open Classical in
theorem WF.loop {α : Type}(p:α→Prop)(φi:α→Fr)(Li:α→List HB)(μ : α→Nat){c:Code}(x0:α)(h0:p x0)
  (step:∀w1 M1 D1 x,Anc w0 M D w1 M1 D1→p x→WF ro n P c w1 M1 E n0 N D1 (φi x) (Li x) (Exit.then (fun a w=>∃w2 M2 D2 y,Anc w1 M1 D1 w2 M2 D2∧p y∧μ y < μ x∧St w2 M2 E n0 N D2 (φi y) (Li y) a w) Q)):WF ro n P (.loop c) w0 M E n0 N D (φi x0) (Li x0) Q:=by
 intro a w hS
 let I:Act→World→Prop:=fun a w=>∃x w1 M1 D1,Anc w0 M D w1 M1 D1∧p x∧St w1 M1 E n0 N D1 (φi x) (Li x) a w
 let pm:Act→World→Nat→Prop:=fun a w k=>∃x w1 M1 D1,Anc w0 M D w1 M1 D1∧p x∧St w1 M1 E n0 N D1 (φi x) (Li x) a w∧μ x=k
 have hex:∀a w,I a w→∃k,pm a w k:=fun a w ⟨x,w1,M1,D1,h1,h2,h3⟩=>⟨μ x,x,w1,M1,D1,h1,h2,h3,rfl⟩
 let m:Act→World→Nat:=fun a w=>if h:I a w then Classical.choose (least (hex a w h))else 0
 have hm:∀a w (h:I a w),pm a w (m a w)∧∀k,pm a w k→m a w≤k:=fun a w h=>by
  have:=Classical.choose_spec (least (hex a w h))
  simp only[m,h,dif_pos]
  exact this
 refine wpIn_loop I m ⟨x0,w0,M,D,Anc.refl,h0,hS⟩ fun a w hI=>?_
 obtain⟨⟨x,w1,M1,D1,hA,hx,hSx,hμ⟩,hmin⟩:=hm a w hI
 refine wpIn_mono (step w1 M1 D1 x hA hx a w hSx) fun e a' w' hq=>?_
 cases e<;>try exact hq
 obtain⟨w2,M2,D2,y,hB,hy,hlt,hSy⟩:=hq
 refine⟨⟨y,w2,M2,D2,hA.trans hB,hy,hSy⟩,?_⟩
 have:=(hm a' w' ⟨y,w2,M2,D2,hA.trans hB,hy,hSy⟩).2 (μ y) ⟨y,w2,M2,D2,hA.trans hB,hy,hSy,rfl⟩
 omega
end
end Go.Proofs.Ytjliakjbdcplcaa.Vm
end
