/- A part of the proof that FnCkpSave holds: that the functions of the program compute the plain ones. -/
import Derived.Test.YtfhkpnnbklojoaaGreatPu1
import Derived.Deep.LoopGhost
import Derived.Lib.SliceRun
import Derived.Lib.Walk
import Derived.Test.YtfhkpnnbklojoaaGreatProg
import Derived.WalkKit
set_option linter.unusedVariables false
set_option linter.unusedSimpArgs false
set_option maxRecDepth 100000
namespace Go.Proofs.YtfhkpnnbklojoaaGreatA.AS
open Go.Proofs Go.RowKit Go.Lib
theorem mo:Tryz.prog.follows .mixedOrders=true:=by kernel_rfl
abbrev i6:Ty:=.int .i64
abbrev T122:Ty:=(.pr (.vw (.int .u8)) i6)
abbrev T56:Ty:=(.pr i6 i6)
abbrev T189:Ty:=(.pr i6 T56)
abbrev T58:Ty:=(.pr i6 T189)
abbrev T163:Ty:=(.pr i6 (.pr T56 (.pr T58 (.pr T58 (.pr i6 .bool)))))
abbrev T85:Ty:=(.pr i6 (.sl T163))
abbrev T24:Ty:=(.pr i6 (.pr i6 (.pr i6 (.pr i6 (.pr i6 (.pr i6 (.pr i6 (.pr .bool T56))))))))
abbrev T119:Ty:=(.pr T85 (.sl i6))
abbrev T35:Ty:=(.pr i6 (.pr (.sl i6) (.sl T119)))
abbrev T37:Ty:=(.pr i6 (.pr .bool (.pr (.sl i6) (.pr (.sl .bool) (.pr (.sl T119) T35)))))
abbrev T124:Ty:=(.pr i6 T58)
abbrev T85v:Ty:=(.pr i6 (.vw T163))
abbrev T135:Ty:=(.pr (.sl T124) (.pr i6 .bool))
abbrev T60:Ty:=(.pr i6 (.pr T56 (.pr i6 T124)))
abbrev T176:Ty:=(.pr T124 T56)
abbrev T87:Ty:=(.pr i6 (.pr (.sl T60) (.sl T176)))
abbrev T89:Ty:=(.pr (.sl T135) (.pr T85 (.pr i6 T87)))
abbrev T87v:Ty:=(.pr i6 (.pr (.vw T60) (.vw T176)))
abbrev T97s:Ty:=(.pr (.sl T87v) T87)
abbrev T35v:Ty:=(.pr i6 (.pr (.vw i6) (.vw T119)))
abbrev T37v:Ty:=(.pr i6 (.pr .bool (.pr (.vw i6) (.pr (.vw .bool) (.pr (.vw T119) T35v)))))
abbrev T39sv:Ty:=(.pr T24 (.pr (.vw (.sl T124)) (.pr (.vw T56) (.pr (.vw T89) (.pr (.vw T97s) T37v)))))
abbrev T39s:Ty:=(.pr T24 (.pr (.sl (.sl T124)) (.pr (.sl T56) (.pr (.sl T89) (.pr (.sl T97s) T37)))))
abbrev T119v:Ty:=(.pr T85v (.vw i6))
abbrev T135v:Ty:=(.pr (.vw T124) (.pr i6 .bool))
abbrev T89v:Ty:=(.pr (.vw T135) (.pr T85v (.pr i6 T87v)))
abbrev T97sv:Ty:=(.pr (.vw T87v) T87v)
noncomputable def e32:Ent Tryz.prog ⟨[.v (.sl (.int .u8))],[T122],true⟩:=genB [] 32 _ 2 [⟨1,[(.normal,⟨[(0,.one (.sl false (.int .u8)))],[],[]⟩,[])],[]⟩] [] [] mo Tryz.func32 rfl rfl (by kernel_rfl) (by kernel_rfl) rfl
theorem k32 (a0:Den (.sl (.int .u8))):e32.f (a0)=s_l20Open (a0):=by kernel_rfl
noncomputable def n32:Ent Tryz.prog ⟨[.v (.sl (.int .u8))],[T122],true⟩:=⟨32,s_l20Open,fun a0 y hs h=>e32.ok _ y hs ((k32 a0).trans h)⟩
noncomputable def e102:Ent Tryz.prog ⟨[.v T85],[T85],false⟩:=genE [] 102 _ [.c 2 (some 2)] [] [T163] [] mo Tryz.func102 rfl rfl (by kernel_rfl) (by kernel_rfl) (by kernel_rfl) rfl
theorem k102 (a0:Den T85):e102.f (a0)=s_l7Copy (a0):=by kernel_rfl
noncomputable def n102:Ent Tryz.prog ⟨[.v T85],[T85],false⟩:=⟨102,s_l7Copy,fun a0 y hs h=>e102.ok _ y hs ((k102 a0).trans h)⟩
noncomputable def e35:Ent Tryz.prog ⟨[.w T122,.v i6],[i6],false⟩:=genE [] 35 _ [.t 4] [⟨9,[(.normal,⟨[(0,.one (.vp 0 0)),(24,.one .b)],[.pk true T122],[]⟩,[])],[]⟩] [] [] mo Tryz.func35 rfl rfl (by kernel_rfl) (by kernel_rfl) (by kernel_rfl) rfl
theorem k35 (a0:Den T122) (a1:Den i6):e35.f (a0,a1)=s_l20Rd_pick (a0,a1):=by kernel_rfl
noncomputable def n35:Ent Tryz.prog ⟨[.w T122,.v i6],[i6],false⟩:=⟨35,s_l20Rd_pick,fun ⟨a0,a1⟩ y hs h=>e35.ok _ y hs ((k35 a0 a1).trans h)⟩
noncomputable def e158:Ent Tryz.prog ⟨[.w T122,.v i6],[T56],false⟩:=genE [⟨_,n35,none,none⟩] 158 _ [.c 4 (some 2)] [⟨1,[(.normal,⟨[(4,.one (.vp 1 0)),(5,.one (.vp 2 0))],[.pk true T122,.pk false T56,.pk false T56],[]⟩,[])],[]⟩] [i6,i6,i6,i6] [] mo Tryz.func158 rfl rfl (by kernel_rfl) (by kernel_rfl) (by kernel_rfl) rfl
theorem k158 (a0:Den T122) (a1:Den i6):e158.f (a0,a1)=s_l20Win (a0,a1):=by kernel_rfl
noncomputable def n158:Ent Tryz.prog ⟨[.w T122,.v i6],[T56],false⟩:=⟨158,s_l20Win,fun ⟨a0,a1⟩ y hs h=>e158.ok _ y hs ((k158 a0 a1).trans h)⟩
noncomputable def e189:Ent Tryz.prog ⟨[.v T58,.v T58],[T58],false⟩:=genE [] 189 _ [.c 4 (some 4)] [⟨4,[(.normal,⟨[(3,.one (.vp 0 0)),(4,.one (.vp 1 0)),(5,.one (.vp 2 0))],[.pk false T58,.pk false T58,.pk false T58],[]⟩,[])],[]⟩,⟨1,[(.normal,⟨[(4,.one (.vp 0 0)),(5,.one (.vp 1 0))],[.pk false T58,.pk false T58],[]⟩,[])],[]⟩] [] [] mo Tryz.func189 rfl rfl (by kernel_rfl) (by kernel_rfl) (by kernel_rfl) rfl
theorem k189 (a0:Den T58) (a1:Den T58):e189.f (a0,a1)=s_AggBoth (a0,a1):=by kernel_rfl
noncomputable def n189:Ent Tryz.prog ⟨[.v T58,.v T58],[T58],false⟩:=⟨189,s_AggBoth,fun ⟨a0,a1⟩ y hs h=>e189.ok _ y hs ((k189 a0 a1).trans h)⟩
noncomputable def e156:Ent Tryz.prog ⟨[.v T58,.v i6],[T58],false⟩:=genE [⟨_,n189,none,none⟩] 156 _ [.c 4 (some 4)] [] [] [] mo Tryz.func156 rfl rfl (by kernel_rfl) (by kernel_rfl) (by kernel_rfl) rfl
theorem k156 (a0:Den T58) (a1:Den i6):e156.f (a0,a1)=s_AggAdd (a0,a1):=by kernel_rfl
noncomputable def n156:Ent Tryz.prog ⟨[.v T58,.v i6],[T58],false⟩:=⟨156,s_AggAdd,fun ⟨a0,a1⟩ y hs h=>e156.ok _ y hs ((k156 a0 a1).trans h)⟩
noncomputable def e157:Ent Tryz.prog ⟨[.w T122,.v i6],[T58],false⟩:=genE [⟨_,n35,none,none⟩,⟨_,n156,none,none⟩] 157 _ [.c 4 (some 4)] [⟨18,[(.normal,⟨[(0,.one (.vp 0 0)),(4,.one (.vp 1 0)),(5,.one (.vp 2 0)),(6,.one (.i .i64))],[.pk true T122,.pk false T58,.pk false T58],[]⟩,[]),(.exit 0,⟨[(0,.one (.vp 0 0)),(4,.one (.vp 1 0)),(5,.one (.vp 2 0))],[.pk true T122,.pk false T58,.pk false T58],[]⟩,[])],[]⟩,⟨2,[(.normal,⟨[(4,.one (.vp 1 0)),(5,.one (.vp 2 0))],[.pk true T122,.pk false T58,.pk false T58],[]⟩,[])],[]⟩] [i6] [] mo Tryz.func157 rfl rfl (by kernel_rfl) (by kernel_rfl) (by kernel_rfl) rfl
theorem k157 (a0:Den T122) (a1:Den i6):e157.f (a0,a1)=s_l20Agg (a0,a1):=by kernel_rfl
noncomputable def n157:Ent Tryz.prog ⟨[.w T122,.v i6],[T58],false⟩:=⟨157,s_l20Agg,fun ⟨a0,a1⟩ y hs h=>e157.ok _ y hs ((k157 a0 a1).trans h)⟩
noncomputable def e10124:Ent Tryz.prog ⟨[.w T122,.o T85],[T85],false⟩:=genE [⟨_,n102,none,none⟩,⟨_,n35,none,none⟩,⟨_,n158,none,none⟩,⟨_,n157,none,none⟩] 124 _ [.c 4 (some 2)] [⟨26,[(.normal,⟨[(0,.one (.vp 0 0)),(3,.one (.vp 1 0)),(4,.one (.vp 2 0)),(16,.one .b)],[.pk true T122,.pk false T85,.pk false T85],[]⟩,[])],[]⟩,⟨2,[(.normal,⟨[(3,.one (.vp 1 0)),(4,.one (.vp 2 0))],[.pk true T122,.pk false T85,.pk false T85],[]⟩,[])],[]⟩] [T163,i6,i6,i6] [(9,[100003]),(8,[100003])] mo Tryz.func124 rfl rfl (by kernel_rfl) (by kernel_rfl) (by kernel_rfl) rfl
theorem k10124 (a0:Den T122) (a1:Den T85):e10124.f (a0,a1)=s_l21BadOp_o (a0,a1):=by kernel_rfl
noncomputable def n10124:Ent Tryz.prog ⟨[.w T122,.o T85],[T85],false⟩:=⟨124,s_l21BadOp_o,fun ⟨a0,a1⟩ y hs h=>e10124.ok _ y hs ((k10124 a0 a1).trans h)⟩
noncomputable def e77:Ent Tryz.prog ⟨[.v i6,.v i6,.v i6],[.bool],false⟩:=genE [] 77 _ [.t 6] [] [] [] mo Tryz.func77 rfl rfl (by kernel_rfl) (by kernel_rfl) (by kernel_rfl) rfl
theorem k77 (a0:Den i6) (a1:Den i6) (a2:Den i6):e77.f (a0,a1,a2)=s_l1In (a0,a1,a2):=by kernel_rfl
noncomputable def n77:Ent Tryz.prog ⟨[.v i6,.v i6,.v i6],[.bool],false⟩:=⟨77,s_l1In,fun ⟨a0,a1,a2⟩ y hs h=>e77.ok _ y hs ((k77 a0 a1 a2).trans h)⟩
noncomputable def e47:Ent Tryz.prog ⟨[.v T24],[.bool],false⟩:=genE [⟨_,n77,none,none⟩] 47 _ [.t 2] [⟨6,[(.normal,⟨[(1,.one (.vp 0 0)),(24,.one .b)],[.pk false T24],[]⟩,[])],[]⟩,⟨3,[(.normal,⟨[(1,.one (.vp 0 0)),(53,.one .b)],[.pk false T24],[]⟩,[])],[]⟩] [] [] mo Tryz.func47 rfl rfl (by kernel_rfl) (by kernel_rfl) (by kernel_rfl) rfl
theorem k47 (a0:Den T24):e47.f (a0)=s_JobOk (a0):=by kernel_rfl
noncomputable def n47:Ent Tryz.prog ⟨[.v T24],[.bool],false⟩:=⟨47,s_JobOk,fun a0 y hs h=>e47.ok _ y hs ((k47 a0).trans h)⟩
noncomputable def e99:Ent Tryz.prog ⟨[.v T24],[(.sl i6),(.sl .bool),(.sl T119)],false⟩:=genE [] 99 _ [.t 2,.t 3,.t 4] [⟨11,[(.normal,⟨[(1,.one (.vp 0 0)),(5,.one (.ref 1)),(6,.one (.ref 2)),(7,.one (.ref 3)),(8,.one (.i .i64))],[.pk false T24,.sl i6,.sl .bool,.sl T119],[]⟩,[]),(.exit 0,⟨[(1,.one (.vp 0 0)),(5,.one (.ref 1)),(6,.one (.ref 2)),(7,.one (.ref 3))],[.pk false T24,.sl i6,.sl .bool,.sl T119],[]⟩,[])],[]⟩,⟨2,[(.normal,⟨[(1,.one (.vp 0 0)),(5,.one (.ref 1)),(6,.one (.ref 2)),(7,.one (.ref 3)),(9,.one (.i .i64))],[.pk false T24,.sl i6,.sl .bool,.sl T119],[]⟩,[]),(.exit 2,⟨[(5,.one (.ref 0)),(6,.one (.ref 1)),(7,.one (.ref 2))],[.sl i6,.sl .bool,.sl T119],[]⟩,[])],[]⟩] [T119,.bool,i6,T119,.bool,i6] [] mo Tryz.func99 rfl rfl (by kernel_rfl) (by kernel_rfl) (by kernel_rfl) rfl
theorem k99 (a0:Den T24):e99.f (a0)=s_l9Nobody (a0):=by kernel_rfl
noncomputable def n99:Ent Tryz.prog ⟨[.v T24],[(.sl i6),(.sl .bool),(.sl T119)],false⟩:=⟨99,s_l9Nobody,fun a0 y hs h=>e99.ok _ y hs ((k99 a0).trans h)⟩
noncomputable def e48:Ent Tryz.prog ⟨[.v T24],[T37],false⟩:=genE [⟨_,n47,none,none⟩,⟨_,n99,none,none⟩] 48 _ [.c 2 (some 8)] [⟨10,[(.normal,⟨[(1,.one (.vp 0 0)),(2,.one (.vp 1 0)),(6,.one (.vp 2 0)),(7,.one (.i .i64))],[.pk false T24,.pk false T37,.pk false T37],[]⟩,[]),(.exit 0,⟨[(1,.one (.vp 0 0)),(2,.one (.vp 1 0)),(6,.one (.vp 2 0))],[.pk false T24,.pk false T37,.pk false T37],[]⟩,[])],[]⟩,⟨2,[(.normal,⟨[(1,.one (.vp 0 0)),(2,.one (.vp 1 0)),(6,.one (.vp 2 0)),(8,.one (.i .i64))],[.pk false T24,.pk false T37,.pk false T37],[]⟩,[]),(.exit 2,⟨[(2,.one (.vp 0 0)),(6,.one (.vp 1 0))],[.pk false T37,.pk false T37],[]⟩,[])],[]⟩] [i6,T119,i6] [] mo Tryz.func48 rfl rfl (by kernel_rfl) (by kernel_rfl) (by kernel_rfl) rfl
theorem k48 (a0:Den T24):e48.f (a0)=s_CkpNew (a0):=by kernel_rfl
noncomputable def n48:Ent Tryz.prog ⟨[.v T24],[T37],false⟩:=⟨48,s_CkpNew,fun a0 y hs h=>e48.ok _ y hs ((k48 a0).trans h)⟩
noncomputable def e100:Ent Tryz.prog ⟨[.v T124],[.bool],false⟩:=genE [⟨_,n77,none,none⟩] 100 _ [.t 2] [⟨2,[(.ret,⟨[(2,.one .b)],[],[]⟩,[]),(.normal,⟨[(1,.one (.vp 0 0))],[.pk false T124],[]⟩,[])],[]⟩] [] [] mo Tryz.func100 rfl rfl (by kernel_rfl) (by kernel_rfl) (by kernel_rfl) rfl
theorem k100 (a0:Den T124):e100.f (a0)=s_ItmOk (a0):=by kernel_rfl
noncomputable def n100:Ent Tryz.prog ⟨[.v T124],[.bool],false⟩:=⟨100,s_ItmOk,fun a0 y hs h=>e100.ok _ y hs ((k100 a0).trans h)⟩
noncomputable def e49:Ent Tryz.prog ⟨[.v (.sl T124)],[.bool],false⟩:=genE [⟨_,n77,none,none⟩,⟨_,n100,none,none⟩] 49 _ [.t 2] [⟨20,[(.normal,⟨[(18,.one .b)],[],[]⟩,[])],[]⟩,⟨13,[(.normal,⟨[(38,.one .b)],[],[]⟩,[])],[]⟩,⟨4,[(.ret,⟨[(2,.one .b)],[],[]⟩,[]),(.normal,⟨[(3,.one (.i .i64))],[],[]⟩,[])],[]⟩,⟨2,[(.normal,⟨[(3,.one (.i .i64)),(4,.one (.i .i64))],[],[]⟩,[]),(.ret,⟨[(2,.one .b)],[],[]⟩,[]),(.exit 0,⟨[],[],[]⟩,[])],[]⟩] [] [] mo Tryz.func49 rfl rfl (by kernel_rfl) (by kernel_rfl) (by kernel_rfl) rfl
theorem k49 (a0:Den (.sl T124)):e49.f (a0)=s_LogOk (a0):=by kernel_rfl
noncomputable def n49:Ent Tryz.prog ⟨[.v (.sl T124)],[.bool],false⟩:=⟨49,s_LogOk,fun a0 y hs h=>e49.ok _ y hs ((k49 a0).trans h)⟩
noncomputable def e121:Ent Tryz.prog ⟨[.v T56],[.bool],false⟩:=genE [⟨_,n77,none,none⟩] 121 _ [.t 2] [] [] [] mo Tryz.func121 rfl rfl (by kernel_rfl) (by kernel_rfl) (by kernel_rfl) rfl
theorem k121 (a0:Den T56):e121.f (a0)=s_WinOk (a0):=by kernel_rfl
noncomputable def n121:Ent Tryz.prog ⟨[.v T56],[.bool],false⟩:=⟨121,s_WinOk,fun a0 y hs h=>e121.ok _ y hs ((k121 a0).trans h)⟩
noncomputable def e122:Ent Tryz.prog ⟨[.v T58],[.bool],false⟩:=genE [⟨_,n77,none,none⟩] 122 _ [.t 2] [] [] [] mo Tryz.func122 rfl rfl (by kernel_rfl) (by kernel_rfl) (by kernel_rfl) rfl
theorem k122 (a0:Den T58):e122.f (a0)=s_AggOk (a0):=by kernel_rfl
noncomputable def n122:Ent Tryz.prog ⟨[.v T58],[.bool],false⟩:=⟨122,s_AggOk,fun a0 y hs h=>e122.ok _ y hs ((k122 a0).trans h)⟩
noncomputable def e145:Ent Tryz.prog ⟨[.v T24,.v T163,.v i6],[.bool],false⟩:=genE [⟨_,n77,none,none⟩,⟨_,n121,none,none⟩,⟨_,n122,none,none⟩] 145 _ [.t 6] [⟨3,[(.normal,⟨[(3,.one (.vp 0 0)),(4,.one (.vp 1 0)),(49,.one .b)],[.pk false T24,.pk false T163],[]⟩,[])],[]⟩] [] [] mo Tryz.func145 rfl rfl (by kernel_rfl) (by kernel_rfl) (by kernel_rfl) rfl
theorem k145 (a0:Den T24) (a1:Den T163) (a2:Den i6):e145.f (a0,a1,a2)=s_l7Row (a0,a1,a2):=by kernel_rfl
noncomputable def n145:Ent Tryz.prog ⟨[.v T24,.v T163,.v i6],[.bool],false⟩:=⟨145,s_l7Row,fun ⟨a0,a1,a2⟩ y hs h=>e145.ok _ y hs ((k145 a0 a1 a2).trans h)⟩
noncomputable def e185:Ent Tryz.prog ⟨[.v T56,.v T56],[.bool],false⟩:=genE [] 185 _ [.t 4] [] [] [] mo Tryz.func185 rfl rfl (by kernel_rfl) (by kernel_rfl) (by kernel_rfl) rfl
theorem k185 (a0:Den T56) (a1:Den T56):e185.f (a0,a1)=s_l2Less (a0,a1):=by kernel_rfl
noncomputable def n185:Ent Tryz.prog ⟨[.v T56,.v T56],[.bool],false⟩:=⟨185,s_l2Less,fun ⟨a0,a1⟩ y hs h=>e185.ok _ y hs ((k185 a0 a1).trans h)⟩
noncomputable def e146:Ent Tryz.prog ⟨[.v i6,.v T56,.v i6,.v T56],[.bool],false⟩:=genE [⟨_,n185,none,none⟩] 146 _ [.t 8] [] [] [] mo Tryz.func146 rfl rfl (by kernel_rfl) (by kernel_rfl) (by kernel_rfl) rfl
theorem k146 (a0:Den i6) (a1:Den T56) (a2:Den i6) (a3:Den T56):e146.f (a0,a1,a2,a3)=s_l5Ahead (a0,a1,a2,a3):=by kernel_rfl
noncomputable def n146:Ent Tryz.prog ⟨[.v i6,.v T56,.v i6,.v T56],[.bool],false⟩:=⟨146,s_l5Ahead,fun ⟨a0,a1,a2,a3⟩ y hs h=>e146.ok _ y hs ((k146 a0 a1 a2 a3).trans h)⟩
noncomputable def e147:Ent Tryz.prog ⟨[.v T56,.v T56],[.bool],false⟩:=genE [] 147 _ [.t 4] [] [] [] mo Tryz.func147 rfl rfl (by kernel_rfl) (by kernel_rfl) (by kernel_rfl) rfl
theorem k147 (a0:Den T56) (a1:Den T56):e147.f (a0,a1)=s_WinTouch (a0,a1):=by kernel_rfl
noncomputable def n147:Ent Tryz.prog ⟨[.v T56,.v T56],[.bool],false⟩:=⟨147,s_WinTouch,fun ⟨a0,a1⟩ y hs h=>e147.ok _ y hs ((k147 a0 a1).trans h)⟩
noncomputable def e101:Ent Tryz.prog ⟨[.v T24,.v T85],[.bool],false⟩:=genE [⟨_,n47,none,none⟩,⟨_,n77,none,none⟩,⟨_,n145,none,none⟩,⟨_,n146,none,none⟩,⟨_,n147,none,none⟩] 101 _ [.t 4] [⟨24,[(.normal,⟨[(2,.one (.vp 0 0)),(3,.one (.vp 1 0)),(22,.one .b)],[.pk false T24,.pk false T85v],[]⟩,[])],[]⟩,⟨17,[(.normal,⟨[(2,.one (.vp 0 0)),(3,.one (.vp 1 0)),(6,.one (.vp 2 0)),(66,.one .b)],[.pk false T24,.pk false T85v,.pk false T163],[]⟩,[])],[]⟩,⟨13,[(.normal,⟨[(2,.one (.vp 0 0)),(3,.one (.vp 1 0)),(6,.one (.vp 2 0)),(74,.one .b)],[.pk false T24,.pk false T85v,.pk false T163],[]⟩,[])],[]⟩,⟨11,[(.normal,⟨[(2,.one (.vp 0 0)),(3,.one (.vp 1 0)),(6,.one (.vp 2 0)),(96,.one .b)],[.pk false T24,.pk false T85v,.pk false T163],[]⟩,[])],[]⟩,⟨6,[(.normal,⟨[(2,.one (.vp 0 0)),(3,.one (.vp 1 0)),(6,.one (.vp 2 0)),(7,.one (.i .i64))],[.pk false T24,.pk false T85v,.pk false T163],[]⟩,[]),(.ret,⟨[(4,.one .b)],[],[]⟩,[]),(.exit 2,⟨[(2,.one (.vp 0 0)),(3,.one (.vp 1 0))],[.pk false T24,.pk false T85v],[]⟩,[])],[]⟩,⟨4,[(.ret,⟨[(4,.one .b)],[],[]⟩,[]),(.normal,⟨[(2,.one (.vp 0 0)),(3,.one (.vp 1 0))],[.pk false T24,.pk false T85v],[]⟩,[])],[]⟩,⟨2,[(.normal,⟨[(2,.one (.vp 0 0)),(3,.one (.vp 1 0)),(5,.one (.i .i64))],[.pk false T24,.pk false T85v],[]⟩,[]),(.ret,⟨[(4,.one .b)],[],[]⟩,[]),(.exit 0,⟨[],[],[]⟩,[])],[]⟩] [] [] mo Tryz.func101 rfl rfl (by kernel_rfl) (by kernel_rfl) (by kernel_rfl) rfl
theorem k101 (a0:Den T24) (a1:Den T85):e101.f (a0,a1)=s_OpOk (a0,a1):=by kernel_rfl
noncomputable def n101:Ent Tryz.prog ⟨[.v T24,.v T85],[.bool],false⟩:=⟨101,s_OpOk,fun ⟨a0,a1⟩ y hs h=>e101.ok _ y hs ((k101 a0 a1).trans h)⟩
noncomputable def e50:Ent Tryz.prog ⟨[.v T24,.v T85,.v (.sl i6)],[T89],false⟩:=genE [⟨_,n101,none,none⟩,⟨_,n102,none,none⟩,⟨_,n77,none,none⟩] 50 _ [.c 6 (some 7)] [⟨15,[(.normal,⟨[(3,.one (.vp 0 0)),(4,.one (.vp 1 0)),(6,.one (.vp 2 0)),(19,.one .b)],[.pk false T24,.pk false T85v,.pk false T89],[]⟩,[])],[]⟩,⟨2,[(.normal,⟨[(3,.one (.vp 0 0)),(6,.one (.vp 1 0)),(7,.one (.vp 2 0)),(8,.one (.i .i64))],[.pk false T24,.pk false T89,.pk false T89],[]⟩,[]),(.ret,⟨[(6,.one (.vp 0 0))],[.pk false T89],[]⟩,[]),(.exit 0,⟨[(6,.one (.vp 0 0)),(7,.one (.vp 1 0))],[.pk false T89,.pk false T89],[]⟩,[])],[]⟩] [T135] [] mo Tryz.func50 rfl rfl (by kernel_rfl) (by kernel_rfl) (by kernel_rfl) rfl
theorem k50 (a0:Den T24) (a1:Den T85) (a2:Den (.sl i6)):e50.f (a0,a1,a2)=s_TskNew (a0,a1,a2):=by kernel_rfl
noncomputable def n50:Ent Tryz.prog ⟨[.v T24,.v T85,.v (.sl i6)],[T89],false⟩:=⟨50,s_TskNew,fun ⟨a0,a1,a2⟩ y hs h=>e50.ok _ y hs ((k50 a0 a1 a2).trans h)⟩
noncomputable def e10009:Ent Tryz.prog ⟨[.v T24,.v (.sl (.sl T124))],[T39sv],false⟩:=genE [⟨_,n47,none,none⟩,⟨_,n48,none,none⟩,⟨_,n49,none,none⟩,⟨_,n50,none,none⟩] 9 _ [.c 4 (some 22)] [⟨25,[(.normal,⟨[(2,.one (.vp 0 0)),(4,.one (.vp 1 0)),(17,.one .b)],[.pk false T24,.pk false T39s],[]⟩,[])],[]⟩,⟨11,[(.normal,⟨[(2,.one (.vp 0 0)),(4,.one (.vp 1 0)),(5,.one (.vp 2 0)),(6,.one (.i .i64))],[.pk false T24,.pk false T39s,.pk false T39s],[]⟩,[]),(.ret,⟨[(4,.one (.vp 0 0))],[.pk false T39s],[]⟩,[]),(.exit 0,⟨[(2,.one (.vp 0 0)),(4,.one (.vp 1 0)),(5,.one (.vp 2 0))],[.pk false T24,.pk false T39s,.pk false T39s],[]⟩,[])],[]⟩,⟨2,[(.normal,⟨[(2,.one (.vp 0 0)),(4,.one (.vp 1 0)),(5,.one (.vp 2 0)),(7,.one (.i .i64))],[.pk false T24,.pk false T39s,.pk false T39s],[]⟩,[]),(.exit 2,⟨[(4,.one (.vp 0 0)),(5,.one (.vp 1 0))],[.pk false T39s,.pk false T39s],[]⟩,[])],[]⟩] [T97s,i6,T89,T56,T124,(.sl T124)] [] mo Tryz.func9 rfl rfl (by kernel_rfl) (by kernel_rfl) (by kernel_rfl) rfl
theorem k10009 (a0:Den T24) (a1:Den (.sl (.sl T124))):e10009.f (a0,a1)=s_FloNew_v (a0,a1):=by kernel_rfl
noncomputable def n10009:Ent Tryz.prog ⟨[.v T24,.v (.sl (.sl T124))],[T39sv],false⟩:=⟨9,s_FloNew_v,fun ⟨a0,a1⟩ y hs h=>e10009.ok _ y hs ((k10009 a0 a1).trans h)⟩
noncomputable def e86:Ent Tryz.prog ⟨[.w T122],[T124],false⟩:=genE [⟨_,n35,none,none⟩] 86 _ [.c 2 (some 5)] [] [i6] [] mo Tryz.func86 rfl rfl (by kernel_rfl) (by kernel_rfl) (by kernel_rfl) rfl
theorem k86 (a0:Den T122):e86.f (a0)=s_l20Rec (a0):=by kernel_rfl
noncomputable def n86:Ent Tryz.prog ⟨[.w T122],[T124],false⟩:=⟨86,s_l20Rec,fun a0 y hs h=>e86.ok _ y hs ((k86 a0).trans h)⟩
noncomputable def e84:Ent Tryz.prog ⟨[.w T122,.v i6],[(.sl T124)],false⟩:=genE [⟨_,n35,none,none⟩,⟨_,n86,none,none⟩] 84 _ [.t 4] [⟨20,[(.normal,⟨[(0,.one (.vp 0 0)),(5,.one (.ref 1)),(10,.one (.i .i64))],[.pk true T122,.sl T124],[]⟩,[])],[]⟩,⟨10,[(.normal,⟨[(0,.one (.vp 0 0)),(5,.one (.ref 1)),(11,.one (.vp 2 0))],[.pk true T122,.sl T124,.pk false T124],[]⟩,[])],[]⟩,⟨7,[(.normal,⟨[(0,.one (.vp 0 0)),(5,.one (.ref 1)),(11,.one (.vp 2 0))],[.pk true T122,.sl T124,.pk false T124],[]⟩,[])],[]⟩,⟨5,[(.normal,⟨[(0,.one (.vp 0 0)),(5,.one (.ref 1)),(7,.one (.i .i64))],[.pk true T122,.sl T124],[]⟩,[])],[]⟩,⟨2,[(.normal,⟨[(0,.one (.vp 0 0)),(5,.one (.ref 1)),(6,.one (.i .i64)),(7,.one (.i .i64)),(9,.one (.i .i64))],[.pk true T122,.sl T124],[]⟩,[]),(.exit 0,⟨[(5,.one (.ref 1))],[.pk true T122,.sl T124],[]⟩,[])],[]⟩] [T124,T124,i6,T124,i6,T124] [] mo Tryz.func84 rfl rfl (by kernel_rfl) (by kernel_rfl) (by kernel_rfl) rfl
theorem k84 (a0:Den T122) (a1:Den i6):e84.f (a0,a1)=s_l20Log (a0,a1):=by kernel_rfl
noncomputable def n84:Ent Tryz.prog ⟨[.w T122,.v i6],[(.sl T124)],false⟩:=⟨84,s_l20Log,fun ⟨a0,a1⟩ y hs h=>e84.ok _ y hs ((k84 a0 a1).trans h)⟩
noncomputable def e10034:Ent Tryz.prog ⟨[.w T122,.v T24],[(.vw (.sl T124))],false⟩:=genE [⟨_,n35,none,none⟩,⟨_,n84,none,none⟩] 34 _ [.t 4] [⟨2,[(.normal,⟨[(0,.one (.vp 0 0)),(3,.one (.vp 1 0)),(5,.one (.ref 2)),(6,.one (.i .i64))],[.pk true T122,.pk false T24,.sl (.sl T124)],[]⟩,[]),(.exit 0,⟨[(5,.one (.ref 1))],[.pk true T122,.sl (.sl T124)],[]⟩,[])],[]⟩] [(.sl T124),(.sl T124)] [] mo Tryz.func34 rfl rfl (by kernel_rfl) (by kernel_rfl) (by kernel_rfl) rfl
theorem k10034 (a0:Den T122) (a1:Den T24):e10034.f (a0,a1)=s_l21Logs_v (a0,a1):=by kernel_rfl
noncomputable def n10034:Ent Tryz.prog ⟨[.w T122,.v T24],[(.vw (.sl T124))],false⟩:=⟨34,s_l21Logs_v,fun ⟨a0,a1⟩ y hs h=>e10034.ok _ y hs ((k10034 a0 a1).trans h)⟩
noncomputable def e33:Ent Tryz.prog ⟨[.w T122],[T24],false⟩:=genE [⟨_,n35,none,none⟩] 33 _ [.c 2 (some 10)] [⟨4,[(.normal,⟨[(2,.one (.vp 1 0)),(3,.one (.vp 2 0)),(68,.one .b)],[.pk true T122,.pk false T24,.pk false T24],[]⟩,[])],[]⟩,⟨1,[(.normal,⟨[(2,.one (.vp 1 0)),(3,.one (.vp 2 0))],[.pk true T122,.pk false T24,.pk false T24],[]⟩,[])],[]⟩] [i6,i6,i6] [] mo Tryz.func33 rfl rfl (by kernel_rfl) (by kernel_rfl) (by kernel_rfl) rfl
theorem k33 (a0:Den T122):e33.f (a0)=s_l20Job (a0):=by kernel_rfl
noncomputable def n33:Ent Tryz.prog ⟨[.w T122],[T24],false⟩:=⟨33,s_l20Job,fun a0 y hs h=>e33.ok _ y hs ((k33 a0).trans h)⟩
noncomputable def e114:Ent Tryz.prog ⟨[.w T122],[T39sv],false⟩:=genE [⟨_,n10009,none,none⟩,⟨_,n10034,none,none⟩,⟨_,n33,none,none⟩] 114 _ [.c 2 (some 22)] [] [] [] mo Tryz.func114 rfl rfl (by kernel_rfl) (by kernel_rfl) (by kernel_rfl) rfl
theorem k114 (a0:Den T122):e114.f (a0)=s_l21Begin (a0):=by kernel_rfl
noncomputable def n114:Ent Tryz.prog ⟨[.w T122],[T39sv],false⟩:=⟨114,s_l21Begin,fun a0 y hs h=>e114.ok _ y hs ((k114 a0).trans h)⟩
noncomputable def e79:Ent Tryz.prog ⟨[.v T24,.v T119],[.bool],false⟩:=genE [⟨_,n101,none,none⟩,⟨_,n77,none,none⟩] 79 _ [.t 4] [⟨17,[(.normal,⟨[(3,.one (.vp 0 0)),(19,.one .b)],[.pk false T119v],[]⟩,[])],[]⟩,⟨5,[(.normal,⟨[(3,.one (.vp 0 0)),(5,.one (.i .i64))],[.pk false T119v],[]⟩,[])],[]⟩,⟨2,[(.normal,⟨[(3,.one (.vp 0 0)),(5,.one (.i .i64)),(6,.one (.i .i64))],[.pk false T119v],[]⟩,[]),(.ret,⟨[(4,.one .b)],[],[]⟩,[]),(.exit 0,⟨[(3,.one (.vp 0 0)),(5,.one (.i .i64))],[.pk false T119v],[]⟩,[])],[]⟩] [] [] mo Tryz.func79 rfl rfl (by kernel_rfl) (by kernel_rfl) (by kernel_rfl) rfl
theorem k79 (a0:Den T24) (a1:Den T119):e79.f (a0,a1)=s_l9Snap (a0,a1):=by kernel_rfl
noncomputable def n79:Ent Tryz.prog ⟨[.v T24,.v T119],[.bool],false⟩:=⟨79,s_l9Snap,fun ⟨a0,a1⟩ y hs h=>e79.ok _ y hs ((k79 a0 a1).trans h)⟩
noncomputable def e78:Ent Tryz.prog ⟨[.v T24,.v T35],[.bool],false⟩:=genE [⟨_,n77,none,none⟩,⟨_,n79,none,none⟩] 78 _ [.t 4] [⟨23,[(.normal,⟨[(2,.one (.vp 0 0)),(3,.one (.vp 1 0)),(26,.one .b)],[.pk false T24,.pk false T35v],[]⟩,[])],[]⟩,⟨12,[(.normal,⟨[(2,.one (.vp 0 0)),(3,.one (.vp 1 0)),(5,.one (.i .i64))],[.pk false T24,.pk false T35v],[]⟩,[]),(.ret,⟨[(4,.one .b)],[],[]⟩,[]),(.exit 0,⟨[(2,.one (.vp 0 0)),(3,.one (.vp 1 0))],[.pk false T24,.pk false T35v],[]⟩,[])],[]⟩,⟨2,[(.normal,⟨[(2,.one (.vp 0 0)),(3,.one (.vp 1 0)),(6,.one (.i .i64))],[.pk false T24,.pk false T35v],[]⟩,[]),(.ret,⟨[(4,.one .b)],[],[]⟩,[]),(.exit 2,⟨[],[],[]⟩,[])],[]⟩] [] [] mo Tryz.func78 rfl rfl (by kernel_rfl) (by kernel_rfl) (by kernel_rfl) rfl
theorem k78 (a0:Den T24) (a1:Den T35):e78.f (a0,a1)=s_l9Safe (a0,a1):=by kernel_rfl
noncomputable def n78:Ent Tryz.prog ⟨[.v T24,.v T35],[.bool],false⟩:=⟨78,s_l9Safe,fun ⟨a0,a1⟩ y hs h=>e78.ok _ y hs ((k78 a0 a1).trans h)⟩
noncomputable def e28:Ent Tryz.prog ⟨[.v T24,.v T37],[.bool],false⟩:=genE [⟨_,n47,none,none⟩,⟨_,n77,none,none⟩,⟨_,n78,none,none⟩,⟨_,n79,none,none⟩] 28 _ [.t 4] [⟨23,[(.normal,⟨[(2,.one (.vp 0 0)),(3,.one (.vp 1 0)),(61,.one .b)],[.pk false T24,.pk false T37v],[]⟩,[])],[]⟩,⟨17,[(.normal,⟨[(2,.one (.vp 0 0)),(3,.one (.vp 1 0)),(88,.one .b)],[.pk false T24,.pk false T37v],[]⟩,[])],[]⟩,⟨12,[(.normal,⟨[(2,.one (.vp 0 0)),(3,.one (.vp 1 0)),(5,.one (.i .i64))],[.pk false T24,.pk false T37v],[]⟩,[]),(.ret,⟨[(4,.one .b)],[],[]⟩,[]),(.exit 0,⟨[(2,.one (.vp 0 0)),(3,.one (.vp 1 0))],[.pk false T24,.pk false T37v],[]⟩,[])],[]⟩,⟨7,[(.normal,⟨[(2,.one (.vp 0 0)),(3,.one (.vp 1 0)),(152,.one .b)],[.pk false T24,.pk false T37v],[]⟩,[])],[]⟩,⟨2,[(.normal,⟨[(2,.one (.vp 0 0)),(3,.one (.vp 1 0)),(6,.one (.i .i64))],[.pk false T24,.pk false T37v],[]⟩,[]),(.ret,⟨[(4,.one .b)],[],[]⟩,[]),(.exit 2,⟨[],[],[]⟩,[])],[]⟩] [] [] mo Tryz.func28 rfl rfl (by kernel_rfl) (by kernel_rfl) (by kernel_rfl) rfl
theorem k28 (a0:Den T24) (a1:Den T37):e28.f (a0,a1)=s_CkpOk (a0,a1):=by kernel_rfl
noncomputable def n28:Ent Tryz.prog ⟨[.v T24,.v T37],[.bool],false⟩:=⟨28,s_CkpOk,fun ⟨a0,a1⟩ y hs h=>e28.ok _ y hs ((k28 a0 a1).trans h)⟩
noncomputable def e66:Ent Tryz.prog ⟨[.v T60],[.bool],false⟩:=genE [⟨_,n77,none,none⟩,⟨_,n121,none,none⟩,⟨_,n122,none,none⟩] 66 _ [.t 2] [⟨6,[(.normal,⟨[(1,.one (.vp 0 0)),(24,.one .b)],[.pk false T60],[]⟩,[])],[]⟩,⟨2,[(.normal,⟨[(2,.one .b)],[],[]⟩,[])],[]⟩] [] [] mo Tryz.func66 rfl rfl (by kernel_rfl) (by kernel_rfl) (by kernel_rfl) rfl
theorem k66 (a0:Den T60):e66.f (a0)=s_PanOk (a0):=by kernel_rfl
noncomputable def n66:Ent Tryz.prog ⟨[.v T60],[.bool],false⟩:=⟨66,s_PanOk,fun a0 y hs h=>e66.ok _ y hs ((k66 a0).trans h)⟩
noncomputable def e168:Ent Tryz.prog ⟨[.v T176],[.bool],false⟩:=genE [⟨_,n100,none,none⟩,⟨_,n121,none,none⟩,⟨_,n77,none,none⟩] 168 _ [.t 2] [] [] [] mo Tryz.func168 rfl rfl (by kernel_rfl) (by kernel_rfl) (by kernel_rfl) rfl
theorem k168 (a0:Den T176):e168.f (a0)=s_LatOk (a0):=by kernel_rfl
noncomputable def n168:Ent Tryz.prog ⟨[.v T176],[.bool],false⟩:=⟨168,s_LatOk,fun a0 y hs h=>e168.ok _ y hs ((k168 a0).trans h)⟩
noncomputable def e164:Ent Tryz.prog ⟨[.v T87],[.bool],false⟩:=genE [⟨_,n77,none,none⟩,⟨_,n66,none,none⟩,⟨_,n168,none,none⟩] 164 _ [.t 2] [⟨23,[(.normal,⟨[(1,.one (.vp 0 0)),(20,.one .b)],[.pk false T87v],[]⟩,[])],[]⟩,⟨12,[(.normal,⟨[(1,.one (.vp 0 0)),(3,.one (.i .i64))],[.pk false T87v],[]⟩,[]),(.ret,⟨[(2,.one .b)],[],[]⟩,[]),(.exit 0,⟨[(1,.one (.vp 0 0))],[.pk false T87v],[]⟩,[])],[]⟩,⟨2,[(.normal,⟨[(1,.one (.vp 0 0)),(4,.one (.i .i64))],[.pk false T87v],[]⟩,[]),(.ret,⟨[(2,.one .b)],[],[]⟩,[]),(.exit 2,⟨[],[],[]⟩,[])],[]⟩] [] [] mo Tryz.func164 rfl rfl (by kernel_rfl) (by kernel_rfl) (by kernel_rfl) rfl
theorem k164 (a0:Den T87):e164.f (a0)=s_l8Txn (a0):=by kernel_rfl
noncomputable def n164:Ent Tryz.prog ⟨[.v T87],[.bool],false⟩:=⟨164,s_l8Txn,fun a0 y hs h=>e164.ok _ y hs ((k164 a0).trans h)⟩
noncomputable def e165:Ent Tryz.prog ⟨[.v T24,.v T135],[.bool],false⟩:=genE [⟨_,n77,none,none⟩,⟨_,n100,none,none⟩] 165 _ [.t 4] [⟨13,[(.normal,⟨[(3,.one (.vp 0 0)),(17,.one .b)],[.pk false T135v],[]⟩,[])],[]⟩,⟨2,[(.normal,⟨[(3,.one (.vp 0 0)),(5,.one (.i .i64))],[.pk false T135v],[]⟩,[]),(.ret,⟨[(4,.one .b)],[],[]⟩,[]),(.exit 0,⟨[],[],[]⟩,[])],[]⟩] [] [] mo Tryz.func165 rfl rfl (by kernel_rfl) (by kernel_rfl) (by kernel_rfl) rfl
theorem k165 (a0:Den T24) (a1:Den T135):e165.f (a0,a1)=s_l8In (a0,a1):=by kernel_rfl
noncomputable def n165:Ent Tryz.prog ⟨[.v T24,.v T135],[.bool],false⟩:=⟨165,s_l8In,fun ⟨a0,a1⟩ y hs h=>e165.ok _ y hs ((k165 a0 a1).trans h)⟩
noncomputable def e166:Ent Tryz.prog ⟨[.v T89],[i6],false⟩:=genE [] 166 _ [.t 2] [⟨5,[(.normal,⟨[(1,.one (.vp 0 0)),(3,.one (.i .i64))],[.pk false T89v],[]⟩,[])],[]⟩,⟨2,[(.normal,⟨[(1,.one (.vp 0 0)),(3,.one (.i .i64)),(4,.one (.i .i64))],[.pk false T89v],[]⟩,[]),(.exit 0,⟨[(3,.one (.i .i64))],[],[]⟩,[])],[]⟩] [] [] mo Tryz.func166 rfl rfl (by kernel_rfl) (by kernel_rfl) (by kernel_rfl) rfl
theorem k166 (a0:Den T89):e166.f (a0)=s_TskHeld (a0):=by kernel_rfl
noncomputable def n166:Ent Tryz.prog ⟨[.v T89],[i6],false⟩:=⟨166,s_TskHeld,fun a0 y hs h=>e166.ok _ y hs ((k166 a0).trans h)⟩
noncomputable def e167:Ent Tryz.prog ⟨[.v T89],[i6],false⟩:=genE [] 167 _ [.t 2] [⟨5,[(.normal,⟨[(1,.one (.vp 0 0)),(3,.one (.i .i64))],[.pk false T89v],[]⟩,[])],[]⟩,⟨2,[(.normal,⟨[(1,.one (.vp 0 0)),(3,.one (.i .i64)),(4,.one (.i .i64))],[.pk false T89v],[]⟩,[]),(.exit 0,⟨[(3,.one (.i .i64))],[],[]⟩,[])],[]⟩] [] [] mo Tryz.func167 rfl rfl (by kernel_rfl) (by kernel_rfl) (by kernel_rfl) rfl
theorem k167 (a0:Den T89):e167.f (a0)=s_TskLow (a0):=by kernel_rfl
noncomputable def n167:Ent Tryz.prog ⟨[.v T89],[i6],false⟩:=⟨167,s_TskLow,fun a0 y hs h=>e167.ok _ y hs ((k167 a0).trans h)⟩
noncomputable def e115:Ent Tryz.prog ⟨[.v T24,.v T89],[.bool],false⟩:=genE [⟨_,n101,none,none⟩,⟨_,n77,none,none⟩,⟨_,n164,none,none⟩,⟨_,n165,none,none⟩,⟨_,n166,none,none⟩,⟨_,n167,none,none⟩] 115 _ [.t 4] [⟨13,[(.normal,⟨[(2,.one (.vp 0 0)),(3,.one (.vp 1 0)),(36,.one .b)],[.pk false T24,.pk false T89v],[]⟩,[])],[]⟩,⟨2,[(.normal,⟨[(2,.one (.vp 0 0)),(3,.one (.vp 1 0)),(5,.one (.i .i64))],[.pk false T24,.pk false T89v],[]⟩,[]),(.ret,⟨[(4,.one .b)],[],[]⟩,[]),(.exit 0,⟨[(3,.one (.vp 0 0))],[.pk false T89v],[]⟩,[])],[]⟩] [] [] mo Tryz.func115 rfl rfl (by kernel_rfl) (by kernel_rfl) (by kernel_rfl) rfl
theorem k115 (a0:Den T24) (a1:Den T89):e115.f (a0,a1)=s_TskOk (a0,a1):=by kernel_rfl
noncomputable def n115:Ent Tryz.prog ⟨[.v T24,.v T89],[.bool],false⟩:=⟨115,s_TskOk,fun ⟨a0,a1⟩ y hs h=>e115.ok _ y hs ((k115 a0 a1).trans h)⟩
noncomputable def e116:Ent Tryz.prog ⟨[.v T97s],[.bool],false⟩:=genE [⟨_,n77,none,none⟩,⟨_,n164,none,none⟩,⟨_,n66,none,none⟩,⟨_,n168,none,none⟩] 116 _ [.t 2] [⟨33,[(.normal,⟨[(1,.one (.vp 0 0)),(27,.one .b)],[.pk false T97sv],[]⟩,[])],[]⟩,⟨27,[(.normal,⟨[(1,.one (.vp 0 0)),(72,.one .b)],[.pk false T97sv],[]⟩,[])],[]⟩,⟨22,[(.normal,⟨[(1,.one (.vp 0 0)),(3,.one (.i .i64))],[.pk false T97sv],[]⟩,[]),(.ret,⟨[(2,.one .b)],[],[]⟩,[]),(.exit 0,⟨[(1,.one (.vp 0 0))],[.pk false T97sv],[]⟩,[])],[]⟩,⟨12,[(.normal,⟨[(1,.one (.vp 0 0)),(4,.one (.i .i64))],[.pk false T97sv],[]⟩,[]),(.ret,⟨[(2,.one .b)],[],[]⟩,[]),(.exit 2,⟨[(1,.one (.vp 0 0))],[.pk false T97sv],[]⟩,[])],[]⟩,⟨2,[(.normal,⟨[(1,.one (.vp 0 0)),(5,.one (.i .i64))],[.pk false T97sv],[]⟩,[]),(.ret,⟨[(2,.one .b)],[],[]⟩,[]),(.exit 4,⟨[],[],[]⟩,[])],[]⟩] [] [] mo Tryz.func116 rfl rfl (by kernel_rfl) (by kernel_rfl) (by kernel_rfl) rfl
theorem k116 (a0:Den T97s):e116.f (a0)=s_l10Sink (a0):=by kernel_rfl
noncomputable def n116:Ent Tryz.prog ⟨[.v T97s],[.bool],false⟩:=⟨116,s_l10Sink,fun a0 y hs h=>e116.ok _ y hs ((k116 a0).trans h)⟩
noncomputable def e61:Ent Tryz.prog ⟨[.v T39s],[.bool],false⟩:=genE [⟨_,n28,none,none⟩,⟨_,n49,none,none⟩,⟨_,n77,none,none⟩,⟨_,n115,none,none⟩,⟨_,n116,none,none⟩] 61 _ [.t 2] [⟨23,[(.normal,⟨[(1,.one (.vp 0 0)),(3,.one (.vp 1 0)),(44,.one .b)],[.pk false T39sv,.pk false T24],[]⟩,[])],[]⟩,⟨17,[(.normal,⟨[(1,.one (.vp 0 0)),(3,.one (.vp 1 0)),(102,.one .b)],[.pk false T39sv,.pk false T24],[]⟩,[])],[]⟩,⟨12,[(.normal,⟨[(1,.one (.vp 0 0)),(3,.one (.vp 1 0)),(4,.one (.i .i64))],[.pk false T39sv,.pk false T24],[]⟩,[]),(.ret,⟨[(2,.one .b)],[],[]⟩,[]),(.exit 0,⟨[(1,.one (.vp 0 0)),(3,.one (.vp 1 0))],[.pk false T39sv,.pk false T24],[]⟩,[])],[]⟩,⟨7,[(.normal,⟨[(1,.one (.vp 0 0)),(3,.one (.vp 1 0)),(137,.one .b)],[.pk false T39sv,.pk false T24],[]⟩,[])],[]⟩,⟨2,[(.normal,⟨[(1,.one (.vp 0 0)),(3,.one (.vp 1 0)),(5,.one (.i .i64))],[.pk false T39sv,.pk false T24],[]⟩,[]),(.ret,⟨[(2,.one .b)],[],[]⟩,[]),(.exit 2,⟨[],[],[]⟩,[])],[]⟩] [] [] mo Tryz.func61 rfl rfl (by kernel_rfl) (by kernel_rfl) (by kernel_rfl) rfl
theorem k61 (a0:Den T39s):e61.f (a0)=s_FloOk (a0):=by kernel_rfl
noncomputable def n61:Ent Tryz.prog ⟨[.v T39s],[.bool],false⟩:=⟨61,s_FloOk,fun a0 y hs h=>e61.ok _ y hs ((k61 a0).trans h)⟩
noncomputable def e128:Ent Tryz.prog ⟨[.v T119],[T119],false⟩:=genE [⟨_,n102,none,none⟩] 128 _ [.c 2 (some 3)] [] [i6] [] mo Tryz.func128 rfl rfl (by kernel_rfl) (by kernel_rfl) (by kernel_rfl) rfl
theorem k128 (a0:Den T119):e128.f (a0)=s_l9CopySnap (a0):=by kernel_rfl
noncomputable def n128:Ent Tryz.prog ⟨[.v T119],[T119],false⟩:=⟨128,s_l9CopySnap,fun a0 y hs h=>e128.ok _ y hs ((k128 a0).trans h)⟩
noncomputable def e74:Ent Tryz.prog ⟨[.v (.sl T119)],[(.sl T119)],false⟩:=genE [⟨_,n128,none,none⟩] 74 _ [.t 2] [⟨2,[(.normal,⟨[(3,.one (.ref 0)),(4,.one (.i .i64))],[.sl T119],[]⟩,[]),(.exit 0,⟨[(3,.one (.ref 0))],[.sl T119],[]⟩,[])],[]⟩] [T119,T119] [] mo Tryz.func74 rfl rfl (by kernel_rfl) (by kernel_rfl) (by kernel_rfl) rfl
theorem k74 (a0:Den (.sl T119)):e74.f (a0)=s_l9CopySnaps (a0):=by kernel_rfl
noncomputable def n74:Ent Tryz.prog ⟨[.v (.sl T119)],[(.sl T119)],false⟩:=⟨74,s_l9CopySnaps,fun a0 y hs h=>e74.ok _ y hs ((k74 a0).trans h)⟩
noncomputable def e72:Ent Tryz.prog ⟨[.v T37],[T37],false⟩:=genE [⟨_,n74,none,none⟩] 72 _ [.c 2 (some 8)] [] [i6,.bool,i6] [] mo Tryz.func72 rfl rfl (by kernel_rfl) (by kernel_rfl) (by kernel_rfl) rfl
theorem k72 (a0:Den T37):e72.f (a0)=s_l9Copy (a0):=by kernel_rfl
noncomputable def n72:Ent Tryz.prog ⟨[.v T37],[T37],false⟩:=⟨72,s_l9Copy,fun a0 y hs h=>e72.ok _ y hs ((k72 a0).trans h)⟩
noncomputable def e191:Ent Tryz.prog ⟨[.v T87],[T87],false⟩:=genE [] 191 _ [.c 2 (some 3)] [] [T60,T176] [] mo Tryz.func191 rfl rfl (by kernel_rfl) (by kernel_rfl) (by kernel_rfl) rfl
theorem k191 (a0:Den T87):e191.f (a0)=s_l8CopyTxn (a0):=by kernel_rfl
noncomputable def n191:Ent Tryz.prog ⟨[.v T87],[T87],false⟩:=⟨191,s_l8CopyTxn,fun a0 y hs h=>e191.ok _ y hs ((k191 a0).trans h)⟩
noncomputable def e169:Ent Tryz.prog ⟨[.v T89],[T89],false⟩:=genE [⟨_,n102,none,none⟩,⟨_,n191,none,none⟩] 169 _ [.c 2 (some 7)] [⟨2,[(.normal,⟨[(1,.one (.vp 0 0)),(2,.one (.vp 1 0)),(3,.one (.vp 2 0)),(4,.one (.i .i64))],[.pk false T89v,.pk false T89,.pk false T89],[]⟩,[]),(.exit 0,⟨[(2,.one (.vp 0 0)),(3,.one (.vp 1 0))],[.pk false T89,.pk false T89],[]⟩,[])],[]⟩] [T124,T135] [] mo Tryz.func169 rfl rfl (by kernel_rfl) (by kernel_rfl) (by kernel_rfl) rfl
theorem k169 (a0:Den T89):e169.f (a0)=s_l8Copy (a0):=by kernel_rfl
noncomputable def n169:Ent Tryz.prog ⟨[.v T89],[T89],false⟩:=⟨169,s_l8Copy,fun a0 y hs h=>e169.ok _ y hs ((k169 a0).trans h)⟩
noncomputable def e10191:Ent Tryz.prog ⟨[.v T87],[T87v],false⟩:=genE [] 191 _ [.c 2 (some 3)] [] [T60,T176] [] mo Tryz.func191 rfl rfl (by kernel_rfl) (by kernel_rfl) (by kernel_rfl) rfl
theorem k10191 (a0:Den T87):e10191.f (a0)=s_l8CopyTxn_v (a0):=by kernel_rfl
noncomputable def n10191:Ent Tryz.prog ⟨[.v T87],[T87v],false⟩:=⟨191,s_l8CopyTxn_v,fun a0 y hs h=>e10191.ok _ y hs ((k10191 a0).trans h)⟩
noncomputable def e170:Ent Tryz.prog ⟨[.v T97s],[T97s],false⟩:=genE [⟨_,n10191,none,none⟩] 170 _ [.c 2 (some 4)] [⟨2,[(.normal,⟨[(1,.one (.vp 0 0)),(2,.one (.vp 1 0)),(3,.one (.vp 2 0)),(4,.one (.i .i64))],[.pk false T97sv,.pk false T97s,.pk false T97s],[]⟩,[]),(.exit 0,⟨[(2,.one (.vp 0 0)),(3,.one (.vp 1 0))],[.pk false T97s,.pk false T97s],[]⟩,[])],[]⟩] [T87v,T60,T176] [] mo Tryz.func170 rfl rfl (by kernel_rfl) (by kernel_rfl) (by kernel_rfl) rfl
theorem k170 (a0:Den T97s):e170.f (a0)=s_l10CopySink (a0):=by kernel_rfl
noncomputable def n170:Ent Tryz.prog ⟨[.v T97s],[T97s],false⟩:=⟨170,s_l10CopySink,fun a0 y hs h=>e170.ok _ y hs ((k170 a0).trans h)⟩
noncomputable def e117:Ent Tryz.prog ⟨[.v T39s],[T39s],false⟩:=genE [⟨_,n72,none,none⟩,⟨_,n169,none,none⟩,⟨_,n170,none,none⟩] 117 _ [.c 2 (some 22)] [⟨11,[(.normal,⟨[(1,.one (.vp 0 0)),(2,.one (.vp 1 0)),(3,.one (.vp 2 0)),(4,.one (.i .i64))],[.pk false T39sv,.pk false T39s,.pk false T39s],[]⟩,[]),(.exit 0,⟨[(1,.one (.vp 0 0)),(2,.one (.vp 1 0)),(3,.one (.vp 2 0))],[.pk false T39sv,.pk false T39s,.pk false T39s],[]⟩,[])],[]⟩,⟨2,[(.normal,⟨[(1,.one (.vp 0 0)),(2,.one (.vp 1 0)),(3,.one (.vp 2 0)),(5,.one (.i .i64))],[.pk false T39sv,.pk false T39s,.pk false T39s],[]⟩,[]),(.exit 2,⟨[(2,.one (.vp 0 0)),(3,.one (.vp 1 0))],[.pk false T39s,.pk false T39s],[]⟩,[])],[]⟩] [T97s,T89,T124,(.sl T124),T56] [] mo Tryz.func117 rfl rfl (by kernel_rfl) (by kernel_rfl) (by kernel_rfl) rfl
theorem k117 (a0:Den T39s):e117.f (a0)=s_l10Copy (a0):=by kernel_rfl
noncomputable def n117:Ent Tryz.prog ⟨[.v T39s],[T39s],false⟩:=⟨117,s_l10Copy,fun a0 y hs h=>e117.ok _ y hs ((k117 a0).trans h)⟩
noncomputable def e192:Ent Tryz.prog ⟨[.v T39s,.v i6,.v i6],[.bool],false⟩:=genE [] 192 _ [.t 6] [⟨7,[(.normal,⟨[(3,.one (.vp 0 0)),(38,.one .b)],[.pk false T39sv],[]⟩,[])],[]⟩,⟨2,[(.normal,⟨[(3,.one (.vp 0 0)),(7,.one (.i .i64))],[.pk false T39sv],[]⟩,[]),(.ret,⟨[(6,.one .b)],[],[]⟩,[]),(.exit 0,⟨[],[],[]⟩,[])],[]⟩] [] [] mo Tryz.func192 rfl rfl (by kernel_rfl) (by kernel_rfl) (by kernel_rfl) rfl
theorem k192 (a0:Den T39s) (a1:Den i6) (a2:Den i6):e192.f (a0,a1,a2)=s_l10Room (a0,a1,a2):=by kernel_rfl
noncomputable def n192:Ent Tryz.prog ⟨[.v T39s,.v i6,.v i6],[.bool],false⟩:=⟨192,s_l10Room,fun ⟨a0,a1,a2⟩ y hs h=>e192.ok _ y hs ((k192 a0 a1 a2).trans h)⟩
noncomputable def e193:Ent Tryz.prog ⟨[.o T39s,.v i6,.v i6,.v T124],[T39s],false⟩:=genE [] 193 _ [.c 8 (some 22)] [⟨7,[(.normal,⟨[(4,.one (.vp 0 0)),(7,.one (.vp 1 0)),(8,.one (.vp 2 0)),(23,.one .b)],[.pk false T39s,.pk false T124,.pk false T39s],[]⟩,[])],[]⟩,⟨6,[],[(4,[(12,9)]),(4,[(12,9),(0,1)])]⟩,⟨5,[(.normal,⟨[(4,.one (.vp 0 0)),(7,.one (.vp 1 0)),(8,.one (.vp 2 0))],[.pk false T39s,.pk false T124,.pk false T39s],[]⟩,[])],[]⟩,⟨2,[(.normal,⟨[(4,.one (.vp 0 0)),(7,.one (.vp 1 0)),(8,.one (.vp 2 0)),(9,.one (.i .i64))],[.pk false T39s,.pk false T124,.pk false T39s],[]⟩,[]),(.exit 0,⟨[(4,.one (.vp 0 0)),(8,.one (.vp 1 0))],[.pk false T39s,.pk false T39s],[]⟩,[])],[]⟩] [T124] [] mo Tryz.func193 rfl rfl (by kernel_rfl) (by kernel_rfl) (by kernel_rfl) rfl
theorem k193 (a0:Den T39s) (a1:Den i6) (a2:Den i6) (a3:Den T124):e193.f (a0,a1,a2,a3)=s_l10Send (a0,a1,a2,a3):=by kernel_rfl
noncomputable def n193:Ent Tryz.prog ⟨[.o T39s,.v i6,.v i6,.v T124],[T39s],false⟩:=⟨193,s_l10Send,fun ⟨a0,a1,a2,a3⟩ y hs h=>e193.ok _ y hs ((k193 a0 a1 a2 a3).trans h)⟩
noncomputable def e171:Ent Tryz.prog ⟨[.o T39s,.v i6],[T39s],false⟩:=genE [⟨_,n77,none,none⟩,⟨_,n192,none,none⟩,⟨_,n193,none,none⟩] 171 _ [.c 4 (some 22)] [⟨24,[(.normal,⟨[(2,.one (.vp 0 0)),(4,.one (.vp 1 0)),(29,.one .b)],[.pk false T39s,.pk false T39s],[]⟩,[])],[]⟩,⟨16,[(.ret,⟨[(4,.one (.vp 0 0))],[.pk false T39s],[]⟩,[]),(.normal,⟨[(2,.one (.vp 0 0)),(4,.one (.vp 1 0))],[.pk false T39s,.pk false T39s],[]⟩,[])],[]⟩,⟨8,[(.normal,⟨[(2,.one (.vp 0 0)),(4,.one (.vp 1 0)),(5,.one (.vp 2 0)),(6,.one (.i .i64))],[.pk false T39s,.pk false T39s,.pk false T124],[]⟩,[])],[]⟩,⟨7,[(.normal,⟨[(2,.one (.vp 0 0)),(4,.one (.vp 1 0)),(5,.one (.vp 2 0)),(108,.one .b)],[.pk false T39s,.pk false T39s,.pk false T124],[]⟩,[])],[]⟩,⟨2,[(.ret,⟨[(4,.one (.vp 0 0))],[.pk false T39s],[]⟩,[]),(.normal,⟨[(2,.one (.vp 0 0)),(4,.one (.vp 1 0))],[.pk false T39s,.pk false T39s],[]⟩,[])],[]⟩] [] [(24,[100002]),(18,[100002]),(15,[100002]),(12,[100002]),(1,[100002])] mo Tryz.func171 rfl rfl (by kernel_rfl) (by kernel_rfl) (by kernel_rfl) rfl
theorem k171 (a0:Den T39s) (a1:Den i6):e171.f (a0,a1)=s_l10Src (a0,a1):=by kernel_rfl
noncomputable def n171:Ent Tryz.prog ⟨[.o T39s,.v i6],[T39s],false⟩:=⟨171,s_l10Src,fun ⟨a0,a1⟩ y hs h=>e171.ok _ y hs ((k171 a0 a1).trans h)⟩
noncomputable def e201:Ent Tryz.prog ⟨[.v T97s,.v i6],[T87v,.bool],false⟩:=genE [] 201 _ [.c 4 (some 3),.t 5] [⟨3,[(.normal,⟨[(2,.one (.vp 0 0)),(4,.one (.vp 1 0)),(22,.one .b)],[.pk false T97sv,.pk false T87],[]⟩,[])],[]⟩] [] [] mo Tryz.func201 rfl rfl (by kernel_rfl) (by kernel_rfl) (by kernel_rfl) rfl
theorem k201 (a0:Den T97s) (a1:Den i6):e201.f (a0,a1)=s_l10Open (a0,a1):=by kernel_rfl
noncomputable def n201:Ent Tryz.prog ⟨[.v T97s,.v i6],[T87v,.bool],false⟩:=⟨201,s_l10Open,fun ⟨a0,a1⟩ y hs h=>e201.ok _ y hs ((k201 a0 a1).trans h)⟩
noncomputable def e194:Ent Tryz.prog ⟨[.v T39s,.v i6],[.bool],false⟩:=genE [⟨_,n201,none,none⟩] 194 _ [.t 4] [] [] [] mo Tryz.func194 rfl rfl (by kernel_rfl) (by kernel_rfl) (by kernel_rfl) rfl
theorem k194 (a0:Den T39s) (a1:Den i6):e194.f (a0,a1)=s_l10Full (a0,a1):=by kernel_rfl
noncomputable def n194:Ent Tryz.prog ⟨[.v T39s,.v i6],[.bool],false⟩:=⟨194,s_l10Full,fun ⟨a0,a1⟩ y hs h=>e194.ok _ y hs ((k194 a0 a1).trans h)⟩
noncomputable def e203:Ent Tryz.prog ⟨[.o T89,.v i6,.v i6],[T89,(.sl T87)],false⟩:=genE [⟨_,n166,none,none⟩] 203 _ [.c 6 (some 7),.t 7] [⟨19,[(.normal,⟨[(3,.one (.vp 0 0)),(6,.one (.vp 1 0)),(8,.one (.i .i64))],[.pk false T89,.pk false T89],[]⟩,[]),(.exit 0,⟨[(3,.one (.vp 0 0)),(6,.one (.vp 1 0))],[.pk false T89,.pk false T89],[]⟩,[])],[]⟩,⟨16,[(.normal,⟨[(3,.one (.vp 0 0)),(6,.one (.vp 1 0))],[.pk false T89,.pk false T89],[]⟩,[])],[]⟩,⟨5,[(.normal,⟨[(3,.one (.vp 0 0)),(6,.one (.vp 1 0)),(9,.one (.i .i64))],[.pk false T89,.pk false T89],[]⟩,[]),(.exit 2,⟨[(3,.one (.vp 0 0)),(6,.one (.vp 1 0))],[.pk false T89,.pk false T89],[]⟩,[])],[]⟩] [T87,T87,T87] [(14,[100003])] mo Tryz.func203 rfl rfl (by kernel_rfl) (by kernel_rfl) (by kernel_rfl) rfl
theorem k203 (a0:Den T89) (a1:Den i6) (a2:Den i6):e203.f (a0,a1,a2)=s_l8Wall (a0,a1,a2):=by kernel_rfl
noncomputable def n203:Ent Tryz.prog ⟨[.o T89,.v i6,.v i6],[T89,(.sl T87)],false⟩:=⟨203,s_l8Wall,fun ⟨a0,a1,a2⟩ y hs h=>e203.ok _ y hs ((k203 a0 a1 a2).trans h)⟩
noncomputable def e206:Ent Tryz.prog ⟨[.v T24,.v T163,.v i6],[T60],false⟩:=genE [] 206 _ [.c 6 (some 9)] [⟨1,[(.normal,⟨[(4,.one (.vp 0 0)),(6,.one (.vp 1 0)),(7,.one (.vp 2 0))],[.pk false T163,.pk false T60,.pk false T58],[]⟩,[])],[]⟩] [] [] mo Tryz.func206 rfl rfl (by kernel_rfl) (by kernel_rfl) (by kernel_rfl) rfl
theorem k206 (a0:Den T24) (a1:Den T163) (a2:Den i6):e206.f (a0,a1,a2)=s_l7Pane (a0,a1,a2):=by kernel_rfl
noncomputable def n206:Ent Tryz.prog ⟨[.v T24,.v T163,.v i6],[T60],false⟩:=⟨206,s_l7Pane,fun ⟨a0,a1,a2⟩ y hs h=>e206.ok _ y hs ((k206 a0 a1 a2).trans h)⟩
noncomputable def e204:Ent Tryz.prog ⟨[.v T24,.o T85,.v i6],[T85,(.sl T60)],false⟩:=genE [⟨_,n206,none,none⟩] 204 _ [.c 6 (some 2),.t 7] [⟨14,[(.normal,⟨[(3,.one (.vp 0 0)),(4,.one (.vp 1 0)),(6,.one (.vp 2 0)),(8,.one (.ref 3)),(9,.one (.ref 4)),(11,.one (.vp 5 0)),(43,.one .b)],[.pk false T24,.pk false T85,.pk false T85,.sl T60,.sl T163,.pk false T163],[]⟩,[])],[]⟩,⟨9,[(.normal,⟨[(3,.one (.vp 0 0)),(4,.one (.vp 1 0)),(6,.one (.vp 2 0)),(8,.one (.ref 3)),(9,.one (.ref 4)),(11,.one (.vp 5 0))],[.pk false T24,.pk false T85,.pk false T85,.sl T60,.sl T163,.pk false T163],[]⟩,[])],[]⟩,⟨6,[(.normal,⟨[(3,.one (.vp 0 0)),(4,.one (.vp 1 0)),(6,.one (.vp 2 0)),(8,.one (.ref 3)),(9,.one (.ref 4))],[.pk false T24,.pk false T85,.pk false T85,.sl T60,.sl T163],[]⟩,[])],[]⟩,⟨3,[(.normal,⟨[(3,.one (.vp 0 0)),(4,.one (.vp 1 0)),(6,.one (.vp 2 0)),(8,.one (.ref 3)),(9,.one (.ref 4)),(10,.one (.i .i64))],[.pk false T24,.pk false T85,.pk false T85,.sl T60,.sl T163],[]⟩,[]),(.exit 0,⟨[(4,.one (.vp 0 0)),(6,.one (.vp 1 0)),(8,.one (.ref 2)),(9,.one (.ref 3))],[.pk false T85,.pk false T85,.sl T60,.sl T163],[]⟩,[])],[]⟩] [T163,T60,T163,T60] [] mo Tryz.func204 rfl rfl (by kernel_rfl) (by kernel_rfl) (by kernel_rfl) rfl
theorem k204 (a0:Den T24) (a1:Den T85) (a2:Den i6):e204.f (a0,a1,a2)=s_l7Mark (a0,a1,a2):=by kernel_rfl
noncomputable def n204:Ent Tryz.prog ⟨[.v T24,.o T85,.v i6],[T85,(.sl T60)],false⟩:=⟨204,s_l7Mark,fun ⟨a0,a1,a2⟩ y hs h=>e204.ok _ y hs ((k204 a0 a1 a2).trans h)⟩
noncomputable def e207:Ent Tryz.prog ⟨[.v T24,.v i6],[(.sl T56)],false⟩:=genE [] 207 _ [.t 4] [⟨13,[(.ret,⟨[(4,.one (.ref 0))],[.sl T56],[]⟩,[]),(.normal,⟨[(2,.one (.vp 0 0))],[.pk false T24],[]⟩,[])],[]⟩,⟨5,[(.normal,⟨[(2,.one (.vp 0 0)),(5,.one (.ref 1))],[.pk false T24,.sl T56],[]⟩,[])],[]⟩,⟨2,[(.normal,⟨[(2,.one (.vp 0 0)),(5,.one (.ref 1)),(6,.one (.i .i64))],[.pk false T24,.sl T56],[]⟩,[]),(.exit 1,⟨[(5,.one (.ref 0))],[.sl T56],[]⟩,[])],[]⟩] [T56,T56,T56,T56] [] mo Tryz.func207 rfl rfl (by kernel_rfl) (by kernel_rfl) (by kernel_rfl) rfl
theorem k207 (a0:Den T24) (a1:Den i6):e207.f (a0,a1)=s_l4Of (a0,a1):=by kernel_rfl
noncomputable def n207:Ent Tryz.prog ⟨[.v T24,.v i6],[(.sl T56)],false⟩:=⟨207,s_l4Of,fun ⟨a0,a1⟩ y hs h=>e207.ok _ y hs ((k207 a0 a1).trans h)⟩
noncomputable def e210:Ent Tryz.prog ⟨[.v T56,.v T56],[T56],false⟩:=genE [] 210 _ [.c 4 (some 2)] [⟨4,[(.normal,⟨[(3,.one (.vp 0 0)),(4,.one (.vp 1 0)),(5,.one (.vp 2 0))],[.pk false T56,.pk false T56,.pk false T56],[]⟩,[])],[]⟩,⟨1,[(.normal,⟨[(4,.one (.vp 0 0)),(5,.one (.vp 1 0))],[.pk false T56,.pk false T56],[]⟩,[])],[]⟩] [] [] mo Tryz.func210 rfl rfl (by kernel_rfl) (by kernel_rfl) (by kernel_rfl) rfl
theorem k210 (a0:Den T56) (a1:Den T56):e210.f (a0,a1)=s_WinSpan (a0,a1):=by kernel_rfl
noncomputable def n210:Ent Tryz.prog ⟨[.v T56,.v T56],[T56],false⟩:=⟨210,s_WinSpan,fun ⟨a0,a1⟩ y hs h=>e210.ok _ y hs ((k210 a0 a1).trans h)⟩
noncomputable def e212:Ent Tryz.prog ⟨[.v T85,.v i6,.v T56],[T163,.bool],false⟩:=genE [] 212 _ [.c 6 (some 13),.t 7] [⟨7,[(.normal,⟨[(3,.one (.vp 0 0)),(5,.one (.vp 1 0)),(6,.one (.vp 2 0)),(33,.one .b)],[.pk false T85v,.pk false T56,.pk false T163],[]⟩,[])],[]⟩,⟨2,[(.normal,⟨[(3,.one (.vp 0 0)),(5,.one (.vp 1 0)),(6,.one (.vp 2 0)),(8,.one (.i .i64))],[.pk false T85v,.pk false T56,.pk false T163],[]⟩,[]),(.ret,⟨[(6,.one (.vp 0 0)),(7,.one .b)],[.pk false T163],[]⟩,[]),(.exit 0,⟨[(6,.one (.vp 0 0))],[.pk false T163],[]⟩,[])],[]⟩] [] [] mo Tryz.func212 rfl rfl (by kernel_rfl) (by kernel_rfl) (by kernel_rfl) rfl
theorem k212 (a0:Den T85) (a1:Den i6) (a2:Den T56):e212.f (a0,a1,a2)=s_OpFind (a0,a1,a2):=by kernel_rfl
noncomputable def n212:Ent Tryz.prog ⟨[.v T85,.v i6,.v T56],[T163,.bool],false⟩:=⟨212,s_OpFind,fun ⟨a0,a1,a2⟩ y hs h=>e212.ok _ y hs ((k212 a0 a1 a2).trans h)⟩
noncomputable def e213:Ent Tryz.prog ⟨[.v (.sl T163),.v T163],[(.sl T163)],false⟩:=genE [⟨_,n146,none,none⟩] 213 _ [.t 4] [⟨14,[(.normal,⟨[(3,.one (.vp 0 0)),(5,.one (.ref 1)),(8,.one (.vp 2 0)),(31,.one .b)],[.pk false T163,.sl T163,.pk false T163],[]⟩,[])],[]⟩,⟨12,[(.normal,⟨[(3,.one (.vp 0 0)),(5,.one (.ref 1)),(8,.one (.vp 2 0)),(44,.one .b)],[.pk false T163,.sl T163,.pk false T163],[]⟩,[])],[]⟩,⟨9,[(.normal,⟨[(3,.one (.vp 0 0)),(5,.one (.ref 1)),(6,.one .b),(8,.one (.vp 2 0))],[.pk false T163,.sl T163,.pk false T163],[]⟩,[])],[]⟩,⟨7,[(.normal,⟨[(3,.one (.vp 0 0)),(5,.one (.ref 1)),(6,.one .b)],[.pk false T163,.sl T163],[]⟩,[])],[]⟩,⟨5,[(.normal,⟨[(3,.one (.vp 0 0)),(5,.one (.ref 1)),(6,.one .b),(7,.one (.i .i64))],[.pk false T163,.sl T163],[]⟩,[]),(.exit 0,⟨[(3,.one (.vp 0 0)),(5,.one (.ref 1)),(6,.one .b)],[.pk false T163,.sl T163],[]⟩,[])],[]⟩,⟨1,[(.normal,⟨[(5,.one (.ref 0))],[.sl T163],[]⟩,[])],[]⟩] [T163,T163,T163,T163] [] mo Tryz.func213 rfl rfl (by kernel_rfl) (by kernel_rfl) (by kernel_rfl) rfl
theorem k213 (a0:Den (.sl T163)) (a1:Den T163):e213.f (a0,a1)=s_l7Put (a0,a1):=by kernel_rfl
noncomputable def n213:Ent Tryz.prog ⟨[.v (.sl T163),.v T163],[(.sl T163)],false⟩:=⟨213,s_l7Put,fun ⟨a0,a1⟩ y hs h=>e213.ok _ y hs ((k213 a0 a1).trans h)⟩
noncomputable def e211:Ent Tryz.prog ⟨[.v T24,.o T85,.v T163],[T85,(.sl T60)],false⟩:=genE [⟨_,n213,none,none⟩,⟨_,n206,none,none⟩] 211 _ [.c 6 (some 2),.t 7] [⟨6,[(.normal,⟨[(3,.one (.vp 0 0)),(4,.one (.vp 1 0)),(5,.one (.vp 2 0)),(6,.one (.vp 3 0)),(8,.one (.i .i64))],[.pk false T24,.pk false T85,.pk false T163,.pk false T85],[]⟩,[])],[]⟩] [T60,T60] [] mo Tryz.func211 rfl rfl (by kernel_rfl) (by kernel_rfl) (by kernel_rfl) rfl
theorem k211 (a0:Den T24) (a1:Den T85) (a2:Den T163):e211.f (a0,a1,a2)=s_l7Tell (a0,a1,a2):=by kernel_rfl
noncomputable def n211:Ent Tryz.prog ⟨[.v T24,.o T85,.v T163],[T85,(.sl T60)],false⟩:=⟨211,s_l7Tell,fun ⟨a0,a1,a2⟩ y hs h=>e211.ok _ y hs ((k211 a0 a1 a2).trans h)⟩
noncomputable def e209:Ent Tryz.prog ⟨[.v T24,.o T85,.v T124,.v T56],[T85,(.sl T60),.bool],false⟩:=genE [⟨_,n212,none,none⟩,⟨_,n156,none,none⟩,⟨_,n211,none,none⟩] 209 _ [.c 8 (some 2),.t 9,.t 10] [] [T60] [] mo Tryz.func209 rfl rfl (by kernel_rfl) (by kernel_rfl) (by kernel_rfl) rfl
theorem k209 (a0:Den T24) (a1:Den T85) (a2:Den T124) (a3:Den T56):e209.f (a0,a1,a2,a3)=s_l7Into (a0,a1,a2,a3):=by kernel_rfl
noncomputable def n209:Ent Tryz.prog ⟨[.v T24,.o T85,.v T124,.v T56],[T85,(.sl T60),.bool],false⟩:=⟨209,s_l7Into,fun ⟨a0,a1,a2,a3⟩ y hs h=>e209.ok _ y hs ((k209 a0 a1 a2 a3).trans h)⟩
noncomputable def e208:Ent Tryz.prog ⟨[.v T24,.o T85,.v T124,.v T56],[T85,(.sl T60),.bool],false⟩:=genE [⟨_,n156,none,none⟩,⟨_,n147,none,none⟩,⟨_,n210,none,none⟩,⟨_,n209,none,none⟩,⟨_,n189,none,none⟩,⟨_,n211,none,none⟩] 208 _ [.c 8 (some 2),.t 9,.t 10] [⟨30,[(.normal,⟨[(4,.one (.vp 0 0)),(5,.one (.vp 1 0)),(6,.one (.vp 2 0)),(7,.one (.vp 3 0)),(8,.one (.vp 4 0)),(11,.one (.vp 5 0)),(12,.one (.ref 6)),(13,.one (.ref 7)),(57,.one .b)],[.pk false T24,.pk false T85,.pk false T124,.pk false T56,.pk false T85,.pk false T163,.sl T163,.sl T163],[]⟩,[])],[]⟩,⟨26,[(.normal,⟨[(4,.one (.vp 0 0)),(5,.one (.vp 1 0)),(6,.one (.vp 2 0)),(7,.one (.vp 3 0)),(8,.one (.vp 4 0)),(11,.one (.vp 5 0)),(12,.one (.ref 6)),(13,.one (.ref 7))],[.pk false T24,.pk false T85,.pk false T124,.pk false T56,.pk false T85,.pk false T163,.sl T163,.sl T163],[]⟩,[])],[]⟩,⟨23,[(.normal,⟨[(4,.one (.vp 0 0)),(5,.one (.vp 1 0)),(6,.one (.vp 2 0)),(7,.one (.vp 3 0)),(8,.one (.vp 4 0)),(11,.one (.vp 5 0)),(12,.one (.ref 6)),(13,.one (.ref 7)),(14,.one (.i .i64))],[.pk false T24,.pk false T85,.pk false T124,.pk false T56,.pk false T85,.pk false T163,.sl T163,.sl T163],[]⟩,[]),(.exit 0,⟨[(4,.one (.vp 0 0)),(5,.one (.vp 1 0)),(6,.one (.vp 2 0)),(8,.one (.vp 3 0)),(11,.one (.vp 4 0)),(12,.one (.ref 5)),(13,.one (.ref 6))],[.pk false T24,.pk false T85,.pk false T124,.pk false T85,.pk false T163,.sl T163,.sl T163],[]⟩,[])],[]⟩,⟨18,[(.normal,⟨[(4,.one (.vp 0 0)),(5,.one (.vp 1 0)),(6,.one (.vp 2 0)),(8,.one (.vp 3 0)),(11,.one (.vp 4 0)),(12,.one (.ref 5)),(13,.one (.ref 6)),(106,.one .b)],[.pk false T24,.pk false T85,.pk false T124,.pk false T85,.pk false T163,.sl T163,.sl T163],[]⟩,[])],[]⟩,⟨8,[(.normal,⟨[(4,.one (.vp 0 0)),(5,.one (.vp 1 0)),(8,.one (.vp 2 0)),(11,.one (.vp 3 0)),(12,.one (.ref 4)),(13,.one (.ref 5)),(15,.one (.ref 6))],[.pk false T24,.pk false T85,.pk false T85,.pk false T163,.sl T163,.sl T163,.sl T60],[]⟩,[])],[]⟩,⟨5,[(.normal,⟨[(4,.one (.vp 0 0)),(5,.one (.vp 1 0)),(8,.one (.vp 2 0)),(11,.one (.vp 3 0)),(12,.one (.ref 4)),(13,.one (.ref 5)),(15,.one (.ref 6)),(16,.one (.i .i64))],[.pk false T24,.pk false T85,.pk false T85,.pk false T163,.sl T163,.sl T163,.sl T60],[]⟩,[]),(.exit 2,⟨[(4,.one (.vp 0 0)),(5,.one (.vp 1 0)),(8,.one (.vp 2 0)),(11,.one (.vp 3 0)),(12,.one (.ref 4)),(15,.one (.ref 5))],[.pk false T24,.pk false T85,.pk false T85,.pk false T163,.sl T163,.sl T60],[]⟩,[])],[]⟩] [T60,T60,T60,T163,T163,T163,T163] [] mo Tryz.func208 rfl rfl (by kernel_rfl) (by kernel_rfl) (by kernel_rfl) rfl
theorem k208 (a0:Den T24) (a1:Den T85) (a2:Den T124) (a3:Den T56):e208.f (a0,a1,a2,a3)=s_l7Session (a0,a1,a2,a3):=by kernel_rfl
noncomputable def n208:Ent Tryz.prog ⟨[.v T24,.o T85,.v T124,.v T56],[T85,(.sl T60),.bool],false⟩:=⟨208,s_l7Session,fun ⟨a0,a1,a2,a3⟩ y hs h=>e208.ok _ y hs ((k208 a0 a1 a2 a3).trans h)⟩
noncomputable def e205:Ent Tryz.prog ⟨[.v T24,.o T85,.v T124],[T85,(.sl T60),(.sl T176)],false⟩:=genE [⟨_,n207,none,none⟩,⟨_,n208,none,none⟩,⟨_,n209,none,none⟩] 205 _ [.c 6 (some 2),.t 7,.t 8] [⟨9,[(.normal,⟨[(3,.one (.vp 0 0)),(4,.one (.vp 1 0)),(5,.one (.vp 2 0)),(6,.one (.vp 3 0)),(9,.one (.ref 4)),(10,.one (.ref 5)),(11,.one (.ref 6)),(13,.one (.ref 7)),(14,.one .b)],[.pk false T24,.pk false T85,.pk false T124,.pk false T85,.sl T60,.sl T176,.sl T56,.sl T60],[]⟩,[])],[]⟩,⟨5,[(.normal,⟨[(3,.one (.vp 0 0)),(4,.one (.vp 1 0)),(5,.one (.vp 2 0)),(6,.one (.vp 3 0)),(9,.one (.ref 4)),(10,.one (.ref 5)),(11,.one (.ref 6))],[.pk false T24,.pk false T85,.pk false T124,.pk false T85,.sl T60,.sl T176,.sl T56],[]⟩,[])],[]⟩,⟨2,[(.normal,⟨[(3,.one (.vp 0 0)),(4,.one (.vp 1 0)),(5,.one (.vp 2 0)),(6,.one (.vp 3 0)),(9,.one (.ref 4)),(10,.one (.ref 5)),(11,.one (.ref 6)),(12,.one (.i .i64))],[.pk false T24,.pk false T85,.pk false T124,.pk false T85,.sl T60,.sl T176,.sl T56],[]⟩,[]),(.exit 0,⟨[(4,.one (.vp 0 0)),(6,.one (.vp 1 0)),(9,.one (.ref 2)),(10,.one (.ref 3))],[.pk false T85,.pk false T85,.sl T60,.sl T176],[]⟩,[])],[]⟩] [T176,T60,T176,T60] [] mo Tryz.func205 rfl rfl (by kernel_rfl) (by kernel_rfl) (by kernel_rfl) rfl
theorem k205 (a0:Den T24) (a1:Den T85) (a2:Den T124):e205.f (a0,a1,a2)=s_l7Take (a0,a1,a2):=by kernel_rfl
noncomputable def n205:Ent Tryz.prog ⟨[.v T24,.o T85,.v T124],[T85,(.sl T60),(.sl T176)],false⟩:=⟨205,s_l7Take,fun ⟨a0,a1,a2⟩ y hs h=>e205.ok _ y hs ((k205 a0 a1 a2).trans h)⟩
noncomputable def e202:Ent Tryz.prog ⟨[.v T24,.o T89,.v i6,.v T124],[T89,(.sl T87)],false⟩:=genE [⟨_,n203,none,none⟩,⟨_,n167,none,none⟩,⟨_,n204,none,none⟩,⟨_,n205,none,none⟩] 202 _ [.c 8 (some 7),.t 9] [⟨13,[(.normal,⟨[(4,.one (.vp 0 0)),(5,.one (.vp 1 0)),(8,.one (.vp 2 0)),(11,.one (.ref 3))],[.pk false T24,.pk false T89,.pk false T89,.sl T176],[]⟩,[])],[]⟩,⟨5,[(.normal,⟨[(5,.one (.vp 0 0)),(8,.one (.vp 1 0)),(10,.one (.ref 2)),(11,.one (.ref 3))],[.pk false T89,.pk false T89,.sl T60,.sl T176],[]⟩,[])],[]⟩] [T87,T176,T60] [(12,[100005])] mo Tryz.func202 rfl rfl (by kernel_rfl) (by kernel_rfl) (by kernel_rfl) rfl
theorem k202 (a0:Den T24) (a1:Den T89) (a2:Den i6) (a3:Den T124):e202.f (a0,a1,a2,a3)=s_l8Item (a0,a1,a2,a3):=by kernel_rfl
noncomputable def n202:Ent Tryz.prog ⟨[.v T24,.o T89,.v i6,.v T124],[T89,(.sl T87)],false⟩:=⟨202,s_l8Item,fun ⟨a0,a1,a2,a3⟩ y hs h=>e202.ok _ y hs ((k202 a0 a1 a2 a3).trans h)⟩
noncomputable def e195:Ent Tryz.prog ⟨[.v T24,.v T89,.v i6],[T89,(.sl T87),.bool],false⟩:=genE [⟨_,n115,none,none⟩,⟨_,n169,none,none⟩,⟨_,n77,none,none⟩,⟨_,n202,none,none⟩] 195 _ [.c 6 (some 7),.t 7,.t 8] [⟨6,[(.normal,⟨[(3,.one (.vp 0 0)),(6,.one (.vp 1 0)),(9,.one (.vp 2 0)),(68,.one .b)],[.pk false T24,.pk false T89,.pk false T89],[]⟩,[])],[]⟩] [T124,T87,T87] [(2,[100009])] mo Tryz.func195 rfl rfl (by kernel_rfl) (by kernel_rfl) (by kernel_rfl) rfl
theorem k195 (a0:Den T24) (a1:Den T89) (a2:Den i6):e195.f (a0,a1,a2)=s_TskStep (a0,a1,a2):=by kernel_rfl
noncomputable def n195:Ent Tryz.prog ⟨[.v T24,.v T89,.v i6],[T89,(.sl T87),.bool],false⟩:=⟨195,s_TskStep,fun ⟨a0,a1,a2⟩ y hs h=>e195.ok _ y hs ((k195 a0 a1 a2).trans h)⟩
noncomputable def e10201:Ent Tryz.prog ⟨[.v T97s,.v i6],[T87v,.bool],false⟩:=genE [] 201 _ [.c 4 (some 3),.t 5] [⟨3,[(.normal,⟨[(2,.one (.vp 0 0)),(4,.one (.vp 1 0)),(22,.one .b)],[.pk false T97sv,.pk false T87],[]⟩,[])],[]⟩] [] [] mo Tryz.func201 rfl rfl (by kernel_rfl) (by kernel_rfl) (by kernel_rfl) rfl
theorem k10201 (a0:Den T97s) (a1:Den i6):e10201.f (a0,a1)=s_l10Open_i (a0,a1):=by kernel_rfl
noncomputable def i10201:InE Tryz.prog:=genI 201 [.c 4 (some 3),.t 5] [] Tryz.func201 rfl rfl (by kernel_rfl) (by kernel_rfl) (by kernel_rfl)
noncomputable def n10201:Ent Tryz.prog ⟨[.v T97s,.v i6],[T87v,.bool],false⟩:=⟨201,s_l10Open_i,fun ⟨a0,a1⟩ y hs h=>e10201.ok _ y hs ((k10201 a0 a1).trans h)⟩
noncomputable def e196:Ent Tryz.prog ⟨[.o (.pr (.sl T87v) T87v) [false,false,true,true],.v i6,.v T87],[(.sl T87v)],false⟩:=genE [⟨_,n10191,(some 48),none⟩,⟨_,n10201,none,some i10201⟩,⟨_,n191,none,none⟩] 196 _ [.t 6] [⟨11,[(.normal,⟨[(3,.one (.vp 0 0)),(5,.one (.vp 1 0)),(34,.one .b)],[.var false [(.sl true T87v),(.i .i64),.un,.un],.pk false T87v],[]⟩,[])],[]⟩] [T87v,T87v,T87v] [(0,[10])] mo Tryz.func196 rfl rfl (by kernel_rfl) (by kernel_rfl) (by kernel_rfl) rfl
theorem k196 (a0:Den (.pr (.sl T87v) T87v)) (a1:Den i6) (a2:Den T87):e196.f (a0,a1,a2)=s_l10Joined (a0,a1,a2):=by kernel_rfl
noncomputable def n196:Ent Tryz.prog ⟨[.o (.pr (.sl T87v) T87v) [false,false,true,true],.v i6,.v T87],[(.sl T87v)],false⟩:=⟨196,s_l10Joined,fun ⟨a0,a1,a2⟩ y hs h=>e196.ok _ y hs ((k196 a0 a1 a2).trans h)⟩
noncomputable def e123:Ent Tryz.prog ⟨[.v T89],[(.sl i6)],false⟩:=genE [] 123 _ [.t 2] [⟨2,[(.normal,⟨[(1,.one (.vp 0 0)),(3,.one (.ref 1)),(4,.one (.i .i64))],[.pk false T89v,.sl i6],[]⟩,[]),(.exit 0,⟨[(3,.one (.ref 0))],[.sl i6],[]⟩,[])],[]⟩] [i6,i6] [] mo Tryz.func123 rfl rfl (by kernel_rfl) (by kernel_rfl) (by kernel_rfl) rfl
theorem k123 (a0:Den T89):e123.f (a0)=s_l10Marks (a0):=by kernel_rfl
noncomputable def n123:Ent Tryz.prog ⟨[.v T89],[(.sl i6)],false⟩:=⟨123,s_l10Marks,fun a0 y hs h=>e123.ok _ y hs ((k123 a0).trans h)⟩
noncomputable def e172:Ent Tryz.prog ⟨[.o T39s,.v i6,.v i6],[T39s],false⟩:=genE [⟨_,n77,none,none⟩,⟨_,n194,none,none⟩,⟨_,n195,none,none⟩,⟨_,n196,none,none⟩,⟨_,n102,none,none⟩,⟨_,n123,none,none⟩] 172 _ [.c 6 (some 22)] [⟨17,[(.normal,⟨[(3,.one (.vp 0 0)),(6,.one (.vp 1 0)),(22,.one .b)],[.pk false T39s,.pk false T39s],[]⟩,[])],[]⟩,⟨8,[(.normal,⟨[(3,.one (.vp 0 0)),(6,.one (.vp 1 0)),(7,.one (.vp 2 0)),(80,.one .b)],[.var false [(.i .i64),(.i .i64),(.i .i64),(.i .i64),(.i .i64),(.i .i64),(.i .i64),.b,(.i .i64),(.i .i64),(.sl true (.sl T124)),(.sl true T56),(.ref 3),(.sl true T97s),(.i .i64),.b,(.sl true i6),(.sl true .bool),(.sl true T119),(.i .i64),(.sl true i6),(.sl true T119)],.pk false T39s,.var false [(.ref 4),(.i .i64),(.ref 5),(.i .i64),(.i .i64),(.ref 6),(.ref 7)],.hole T89 [(.ref 4),(.i .i64),(.ref 5),(.i .i64),(.i .i64),(.ref 6),(.ref 7)],.sl T135,.sl T163,.sl T60,.sl T176],[]⟩,[])],[]⟩,⟨5,[(.normal,⟨[(3,.one (.vp 0 0)),(6,.one (.vp 1 0)),(7,.one (.vp 2 0))],[.var false [(.i .i64),(.i .i64),(.i .i64),(.i .i64),(.i .i64),(.i .i64),(.i .i64),.b,(.i .i64),(.i .i64),(.sl true (.sl T124)),(.sl true T56),(.ref 3),(.sl true T97s),(.i .i64),.b,(.sl true i6),(.sl true .bool),(.sl true T119),(.i .i64),(.sl true i6),(.sl true T119)],.pk false T39s,.var false [(.ref 4),(.i .i64),(.ref 5),(.i .i64),(.i .i64),(.ref 6),(.ref 7)],.hole T89 [(.ref 4),(.i .i64),(.ref 5),(.i .i64),(.i .i64),(.ref 6),(.ref 7)],.sl T135,.sl T163,.sl T60,.sl T176],[]⟩,[])],[]⟩,⟨2,[(.normal,⟨[(3,.one (.vp 0 0)),(6,.one (.vp 1 0)),(7,.one (.vp 2 0)),(10,.one (.i .i64))],[.var false [(.i .i64),(.i .i64),(.i .i64),(.i .i64),(.i .i64),(.i .i64),(.i .i64),.b,(.i .i64),(.i .i64),(.sl true (.sl T124)),(.sl true T56),(.ref 3),(.sl true T97s),(.i .i64),.b,(.sl true i6),(.sl true .bool),(.sl true T119),(.i .i64),(.sl true i6),(.sl true T119)],.pk false T39s,.var false [(.ref 4),(.i .i64),(.ref 5),(.i .i64),(.i .i64),(.ref 6),(.ref 7)],.hole T89 [(.ref 4),(.i .i64),(.ref 5),(.i .i64),(.i .i64),(.ref 6),(.ref 7)],.sl T135,.sl T163,.sl T60,.sl T176],[]⟩,[]),(.exit 0,⟨[(3,.one (.vp 0 0)),(6,.one (.vp 1 0))],[.pk false T39s,.pk false T39s],[]⟩,[])],[]⟩] [] [(14,[100003]),(12,[8]),(9,[100003])] mo Tryz.func172 rfl rfl (by kernel_rfl) (by kernel_rfl) (by kernel_rfl) rfl
theorem k172 (a0:Den T39s) (a1:Den i6) (a2:Den i6):e172.f (a0,a1,a2)=s_l10Task (a0,a1,a2):=by kernel_rfl
noncomputable def n172:Ent Tryz.prog ⟨[.o T39s,.v i6,.v i6],[T39s],false⟩:=⟨172,s_l10Task,fun ⟨a0,a1,a2⟩ y hs h=>e172.ok _ y hs ((k172 a0 a1 a2).trans h)⟩
noncomputable def e173:Ent Tryz.prog ⟨[.v T24,.v T37],[T37],false⟩:=genE [⟨_,n28,none,none⟩,⟨_,n72,none,none⟩] 173 _ [.c 4 (some 8)] [⟨4,[(.normal,⟨[(4,.one (.vp 0 0)),(5,.one (.vp 1 0)),(20,.one .b)],[.pk false T37,.pk false T37],[]⟩,[])],[]⟩,⟨1,[(.normal,⟨[(4,.one (.vp 0 0)),(5,.one (.vp 1 0))],[.pk false T37,.pk false T37],[]⟩,[])],[]⟩] [] [] mo Tryz.func173 rfl rfl (by kernel_rfl) (by kernel_rfl) (by kernel_rfl) rfl
theorem k173 (a0:Den T24) (a1:Den T37):e173.f (a0,a1)=s_CkpAsk (a0,a1):=by kernel_rfl
noncomputable def n173:Ent Tryz.prog ⟨[.v T24,.v T37],[T37],false⟩:=⟨173,s_CkpAsk,fun ⟨a0,a1⟩ y hs h=>e173.ok _ y hs ((k173 a0 a1).trans h)⟩
noncomputable def e73:Ent Tryz.prog ⟨[.v T37],[.bool],false⟩:=genE [] 73 _ [.t 2] [⟨12,[(.normal,⟨[(1,.one (.vp 0 0)),(3,.one (.i .i64))],[.pk false T37v],[]⟩,[]),(.ret,⟨[(2,.one .b)],[],[]⟩,[]),(.exit 0,⟨[(1,.one (.vp 0 0))],[.pk false T37v],[]⟩,[])],[]⟩,⟨2,[(.normal,⟨[(1,.one (.vp 0 0)),(4,.one (.i .i64))],[.pk false T37v],[]⟩,[]),(.ret,⟨[(2,.one .b)],[],[]⟩,[]),(.exit 2,⟨[(1,.one (.vp 0 0))],[.pk false T37v],[]⟩,[])],[]⟩] [] [] mo Tryz.func73 rfl rfl (by kernel_rfl) (by kernel_rfl) (by kernel_rfl) rfl
theorem k73 (a0:Den T37):e73.f (a0)=s_l9Ready (a0):=by kernel_rfl
noncomputable def n73:Ent Tryz.prog ⟨[.v T37],[.bool],false⟩:=⟨73,s_l9Ready,fun a0 y hs h=>e73.ok _ y hs ((k73 a0).trans h)⟩
noncomputable def e75:Ent Tryz.prog ⟨[.v T24,.o T37],[T37],false⟩:=genE [⟨_,n99,none,none⟩] 75 _ [.c 4 (some 8)] [] [] [] mo Tryz.func75 rfl rfl (by kernel_rfl) (by kernel_rfl) (by kernel_rfl) rfl
theorem k75 (a0:Den T24) (a1:Den T37):e75.f (a0,a1)=s_l9Drop (a0,a1):=by kernel_rfl
noncomputable def n75:Ent Tryz.prog ⟨[.v T24,.o T37],[T37],false⟩:=⟨75,s_l9Drop,fun ⟨a0,a1⟩ y hs h=>e75.ok _ y hs ((k75 a0 a1).trans h)⟩
noncomputable def e24:Ent Tryz.prog ⟨[.v T24,.v T37],[T37,.bool],false⟩:=genE [⟨_,n28,none,none⟩,⟨_,n72,none,none⟩,⟨_,n73,none,none⟩,⟨_,n74,none,none⟩,⟨_,n75,none,none⟩] 24 _ [.c 4 (some 8),.t 5] [] [i6] [(1,[100006])] mo Tryz.func24 rfl rfl (by kernel_rfl) (by kernel_rfl) (by kernel_rfl) rfl
theorem k24 (a0:Den T24) (a1:Den T37):e24.f (a0,a1)=s_CkpSave (a0,a1):=by kernel_rfl
noncomputable def n24:Ent Tryz.prog ⟨[.v T24,.v T37],[T37,.bool],false⟩:=⟨24,s_CkpSave,fun ⟨a0,a1⟩ y hs h=>e24.ok _ y hs ((k24 a0 a1).trans h)⟩
noncomputable def e174:Ent Tryz.prog ⟨[.o T39s,.v i6],[T39s],false⟩:=genE [⟨_,n77,none,none⟩] 174 _ [.c 4 (some 22)] [⟨12,[(.normal,⟨[(2,.one (.vp 0 0)),(4,.one (.vp 1 0)),(5,.one (.vp 2 0)),(6,.one (.ref 3)),(8,.one (.vp 4 0)),(66,.one .b)],[.var false [(.i .i64),(.i .i64),(.i .i64),(.i .i64),(.i .i64),(.i .i64),(.i .i64),.b,(.i .i64),(.i .i64),(.sl true (.sl T124)),(.sl true T56),(.sl true T89),(.ref 5),(.i .i64),.b,(.sl true i6),(.sl true .bool),(.sl true T119),(.i .i64),(.sl true i6),(.sl true T119)],.pk false T39s,.var false [(.ref 6),(.i .i64),(.sl true T60),(.sl true T176)],.sl T87v,.pk false T87v,.hole T97s [(.ref 6),(.i .i64),.un,.un],.sl T87v],[.sl .bool,.sl .bool,.sl .bool,.sl .bool,.sl .bool,.hole .bool [.b,.b,.un,.un],.sl .bool]⟩,[])],[]⟩,⟨7,[(.normal,⟨[(2,.one (.vp 0 0)),(4,.one (.vp 1 0)),(5,.one (.vp 2 0)),(6,.one (.ref 3))],[.var false [(.i .i64),(.i .i64),(.i .i64),(.i .i64),(.i .i64),(.i .i64),(.i .i64),.b,(.i .i64),(.i .i64),(.sl true (.sl T124)),(.sl true T56),(.sl true T89),(.ref 4),(.i .i64),.b,(.sl true i6),(.sl true .bool),(.sl true T119),(.i .i64),(.sl true i6),(.sl true T119)],.pk false T39s,.var false [(.ref 5),(.i .i64),(.sl true T60),(.sl true T176)],.sl T87v,.hole T97s [(.ref 5),(.i .i64),.un,.un],.sl T87v],[.sl .bool,.sl .bool,.sl .bool,.sl .bool,.hole .bool [.b,.b,.un,.un],.sl .bool]⟩,[])],[]⟩,⟨4,[(.normal,⟨[(2,.one (.vp 0 0)),(4,.one (.vp 1 0)),(5,.one (.vp 2 0)),(6,.one (.ref 3)),(7,.one (.i .i64))],[.var false [(.i .i64),(.i .i64),(.i .i64),(.i .i64),(.i .i64),(.i .i64),(.i .i64),.b,(.i .i64),(.i .i64),(.sl true (.sl T124)),(.sl true T56),(.sl true T89),(.ref 4),(.i .i64),.b,(.sl true i6),(.sl true .bool),(.sl true T119),(.i .i64),(.sl true i6),(.sl true T119)],.pk false T39s,.var false [(.ref 5),(.i .i64),(.sl true T60),(.sl true T176)],.sl T87v,.hole T97s [(.ref 5),(.i .i64),.un,.un],.sl T87v],[.sl .bool,.sl .bool,.sl .bool,.sl .bool,.hole .bool [.b,.b,.un,.un],.sl .bool,.sl .bool,.sl .bool]⟩,[]),(.exit 0,⟨[(2,.one (.vp 0 0)),(4,.one (.vp 1 0)),(5,.one (.vp 2 0)),(6,.one (.ref 3))],[.var false [(.i .i64),(.i .i64),(.i .i64),(.i .i64),(.i .i64),(.i .i64),(.i .i64),.b,(.i .i64),(.i .i64),(.sl true (.sl T124)),(.sl true T56),(.sl true T89),(.ref 4),(.i .i64),.b,(.sl true i6),(.sl true .bool),(.sl true T119),(.i .i64),(.sl true i6),(.sl true T119)],.pk false T39s,.var false [(.ref 5),(.i .i64),(.sl true T60),(.sl true T176)],.sl T87v,.hole T97s [(.ref 5),(.i .i64),.un,.un],.sl T87v],[.sl .bool,.sl .bool,.sl .bool,.sl .bool,.hole .bool [.b,.b,.un,.un],.sl .bool]⟩,[])],[]⟩] [T87v,T87v] [] mo Tryz.func174 rfl rfl (by kernel_rfl) (by kernel_rfl) (by kernel_rfl) rfl
theorem k174 (a0:Den T39s) (a1:Den i6):e174.f (a0,a1)=s_l10Commit (a0,a1):=by kernel_rfl
noncomputable def n174:Ent Tryz.prog ⟨[.o T39s,.v i6],[T39s],false⟩:=⟨174,s_l10Commit,fun ⟨a0,a1⟩ y hs h=>e174.ok _ y hs ((k174 a0 a1).trans h)⟩
noncomputable def e200:Ent Tryz.prog ⟨[.o T39s],[T39s],false⟩:=genE [⟨_,n75,none,none⟩,⟨_,n50,none,none⟩] 200 _ [.c 2 (some 22)] [⟨24,[(.normal,⟨[(1,.one (.vp 0 0)),(2,.one (.vp 1 0)),(3,.one (.i .i64))],[.pk false T39s,.pk false T39s],[]⟩,[]),(.exit 0,⟨[(1,.one (.vp 0 0)),(2,.one (.vp 1 0))],[.pk false T39s,.pk false T39s],[]⟩,[])],[]⟩,⟨19,[],[(1,[(21,4)])]⟩,⟨10,[(.normal,⟨[(1,.one (.vp 0 0)),(2,.one (.vp 1 0)),(6,.one (.ref 2))],[.pk false T39s,.pk false T39s,.sl T87v],[]⟩,[])],[]⟩,⟨7,[(.normal,⟨[(1,.one (.vp 0 0)),(2,.one (.vp 1 0)),(6,.one (.ref 2)),(7,.one (.i .i64))],[.pk false T39s,.pk false T39s,.sl T87v],[]⟩,[]),(.exit 4,⟨[(1,.one (.vp 0 0)),(2,.one (.vp 1 0)),(6,.one (.ref 2))],[.pk false T39s,.pk false T39s,.sl T87v],[]⟩,[])],[]⟩,⟨2,[(.normal,⟨[(1,.one (.vp 0 0)),(2,.one (.vp 1 0)),(4,.one (.i .i64))],[.pk false T39s,.pk false T39s],[]⟩,[]),(.exit 2,⟨[(1,.one (.vp 0 0)),(2,.one (.vp 1 0))],[.pk false T39s,.pk false T39s],[]⟩,[])],[]⟩] [T87v,T87v] [(27,[100001]),(12,[100001])] mo Tryz.func200 rfl rfl (by kernel_rfl) (by kernel_rfl) (by kernel_rfl) rfl
theorem k200 (a0:Den T39s):e200.f (a0)=s_l10Crash (a0):=by kernel_rfl
noncomputable def n200:Ent Tryz.prog ⟨[.o T39s],[T39s],false⟩:=⟨200,s_l10Crash,fun a0 y hs h=>e200.ok _ y hs ((k200 a0).trans h)⟩
noncomputable def e190:Ent Tryz.prog ⟨[.o T39s,.v T189],[T39s],false⟩:=genE [⟨_,n171,none,none⟩,⟨_,n172,none,none⟩,⟨_,n173,none,none⟩,⟨_,n24,none,none⟩,⟨_,n75,none,none⟩,⟨_,n174,none,none⟩,⟨_,n200,none,none⟩] 190 _ [.c 4 (some 22)] [⟨2,[(.ret,⟨[(4,.one (.vp 0 0))],[.pk false T39s],[]⟩,[]),(.normal,⟨[(2,.one (.vp 0 0)),(4,.one (.vp 1 0))],[.pk false T39s,.pk false T39s],[]⟩,[])],[]⟩] [] [] mo Tryz.func190 rfl rfl (by kernel_rfl) (by kernel_rfl) (by kernel_rfl) rfl
theorem k190 (a0:Den T39s) (a1:Den T189):e190.f (a0,a1)=s_l10Does (a0,a1):=by kernel_rfl
noncomputable def n190:Ent Tryz.prog ⟨[.o T39s,.v T189],[T39s],false⟩:=⟨190,s_l10Does,fun ⟨a0,a1⟩ y hs h=>e190.ok _ y hs ((k190 a0 a1).trans h)⟩
noncomputable def e10163:Ent Tryz.prog ⟨[.v T39s,.v T189],[T39sv],false⟩:=genE [⟨_,n61,none,none⟩,⟨_,n117,none,none⟩,⟨_,n190,none,none⟩] 163 _ [.c 4 (some 22)] [] [] [] mo Tryz.func163 rfl rfl (by kernel_rfl) (by kernel_rfl) (by kernel_rfl) rfl
theorem k10163 (a0:Den T39s) (a1:Den T189):e10163.f (a0,a1)=s_FloStep_v (a0,a1):=by kernel_rfl
noncomputable def n10163:Ent Tryz.prog ⟨[.v T39s,.v T189],[T39sv],false⟩:=⟨163,s_FloStep_v,fun ⟨a0,a1⟩ y hs h=>e10163.ok _ y hs ((k10163 a0 a1).trans h)⟩
noncomputable def e159:Ent Tryz.prog ⟨[.w T122,.v T39s],[T189],false⟩:=genE [⟨_,n35,none,none⟩] 159 _ [.c 4 (some 3)] [⟨37,[(.normal,⟨[(0,.one (.vp 0 0)),(3,.one (.vp 1 0)),(4,.one (.vp 2 0)),(7,.one .b)],[.pk true T122,.pk false T39sv,.pk false T189],[]⟩,[])],[]⟩,⟨33,[(.normal,⟨[(0,.one (.vp 0 0)),(3,.one (.vp 1 0)),(4,.one (.vp 2 0)),(11,.one .b)],[.pk true T122,.pk false T39sv,.pk false T189],[]⟩,[])],[]⟩,⟨27,[(.normal,⟨[(0,.one (.vp 0 0)),(3,.one (.vp 1 0)),(4,.one (.vp 2 0)),(18,.one .b)],[.pk true T122,.pk false T39sv,.pk false T189],[]⟩,[])],[]⟩,⟨9,[(.normal,⟨[(0,.one (.vp 0 0)),(3,.one (.vp 1 0)),(4,.one (.vp 2 0)),(31,.one .b)],[.pk true T122,.pk false T39sv,.pk false T189],[]⟩,[])],[]⟩,⟨2,[(.ret,⟨[(4,.one (.vp 1 0))],[.pk true T122,.pk false T189],[]⟩,[]),(.normal,⟨[(0,.one (.vp 0 0)),(3,.one (.vp 1 0)),(4,.one (.vp 2 0))],[.pk true T122,.pk false T39sv,.pk false T189],[]⟩,[])],[]⟩] [] [] mo Tryz.func159 rfl rfl (by kernel_rfl) (by kernel_rfl) (by kernel_rfl) rfl
theorem k159 (a0:Den T122) (a1:Den T39s):e159.f (a0,a1)=s_l21Event (a0,a1):=by kernel_rfl
noncomputable def n159:Ent Tryz.prog ⟨[.w T122,.v T39s],[T189],false⟩:=⟨159,s_l21Event,fun ⟨a0,a1⟩ y hs h=>e159.ok _ y hs ((k159 a0 a1).trans h)⟩
noncomputable def e162:Ent Tryz.prog ⟨[.w T122,.v T39s],[T189],false⟩:=genE [⟨_,n35,none,none⟩] 162 _ [.c 4 (some 3)] [⟨8,[(.normal,⟨[(0,.one (.vp 0 0)),(3,.one (.vp 1 0)),(4,.one (.vp 2 0)),(48,.one .b)],[.pk true T122,.pk false T39sv,.pk false T189],[]⟩,[])],[]⟩,⟨2,[(.normal,⟨[(0,.one (.vp 0 0)),(3,.one (.vp 1 0)),(4,.one (.vp 2 0)),(6,.one (.i .i64)),(7,.one (.i .i64))],[.pk true T122,.pk false T39sv,.pk false T189],[]⟩,[]),(.ret,⟨[(4,.one (.vp 1 0))],[.pk true T122,.pk false T189],[]⟩,[]),(.exit 0,⟨[(4,.one (.vp 1 0)),(6,.one (.i .i64))],[.pk true T122,.pk false T189],[]⟩,[])],[]⟩] [] [] mo Tryz.func162 rfl rfl (by kernel_rfl) (by kernel_rfl) (by kernel_rfl) rfl
theorem k162 (a0:Den T122) (a1:Den T39s):e162.f (a0,a1)=s_l21Lively (a0,a1):=by kernel_rfl
noncomputable def n162:Ent Tryz.prog ⟨[.w T122,.v T39s],[T189],false⟩:=⟨162,s_l21Lively,fun ⟨a0,a1⟩ y hs h=>e162.ok _ y hs ((k162 a0 a1).trans h)⟩
noncomputable def e160:Ent Tryz.prog ⟨[.w T122,.v T39s,.v i6],[T189],false⟩:=genE [⟨_,n35,none,none⟩,⟨_,n162,none,none⟩] 160 _ [.c 6 (some 3)] [⟨18,[(.normal,⟨[(0,.one (.vp 0 0)),(4,.one (.vp 1 0)),(6,.one (.vp 2 0)),(30,.one .b)],[.pk true T122,.pk false T39sv,.pk false T189],[]⟩,[])],[]⟩,⟨14,[(.normal,⟨[(0,.one (.vp 0 0)),(4,.one (.vp 1 0)),(6,.one (.vp 2 0)),(34,.one .b)],[.pk true T122,.pk false T39sv,.pk false T189],[]⟩,[])],[]⟩,⟨10,[(.normal,⟨[(0,.one (.vp 0 0)),(4,.one (.vp 1 0)),(6,.one (.vp 2 0)),(48,.one .b)],[.pk true T122,.pk false T39sv,.pk false T189],[]⟩,[])],[]⟩,⟨2,[(.ret,⟨[(6,.one (.vp 1 0))],[.pk true T122,.pk false T189],[]⟩,[]),(.normal,⟨[(0,.one (.vp 0 0)),(4,.one (.vp 1 0)),(6,.one (.vp 2 0))],[.pk true T122,.pk false T39sv,.pk false T189],[]⟩,[])],[]⟩] [i6,i6] [] mo Tryz.func160 rfl rfl (by kernel_rfl) (by kernel_rfl) (by kernel_rfl) rfl
theorem k160 (a0:Den T122) (a1:Den T39s) (a2:Den i6):e160.f (a0,a1,a2)=s_l21Story (a0,a1,a2):=by kernel_rfl
noncomputable def n160:Ent Tryz.prog ⟨[.w T122,.v T39s,.v i6],[T189],false⟩:=⟨160,s_l21Story,fun ⟨a0,a1,a2⟩ y hs h=>e160.ok _ y hs ((k160 a0 a1 a2).trans h)⟩
noncomputable def e161:Ent Tryz.prog ⟨[.w T122,.v T39s,.v i6],[T189],false⟩:=genE [⟨_,n35,none,none⟩] 161 _ [.c 6 (some 3)] [⟨32,[(.normal,⟨[(0,.one (.vp 0 0)),(4,.one (.vp 1 0)),(6,.one (.vp 2 0)),(19,.one .b)],[.pk true T122,.pk false T39sv,.pk false T189],[]⟩,[])],[]⟩,⟨27,[(.normal,⟨[(0,.one (.vp 0 0)),(4,.one (.vp 1 0)),(6,.one (.vp 2 0)),(53,.one .b)],[.pk true T122,.pk false T39sv,.pk false T189],[]⟩,[])],[]⟩,⟨22,[(.normal,⟨[(0,.one (.vp 0 0)),(4,.one (.vp 1 0)),(6,.one (.vp 2 0)),(8,.one (.i .i64))],[.pk true T122,.pk false T39sv,.pk false T189],[]⟩,[]),(.ret,⟨[(6,.one (.vp 1 0))],[.pk true T122,.pk false T189],[]⟩,[]),(.exit 2,⟨[(0,.one (.vp 0 0)),(4,.one (.vp 1 0)),(6,.one (.vp 2 0))],[.pk true T122,.pk false T39sv,.pk false T189],[]⟩,[])],[]⟩,⟨18,[(.normal,⟨[(0,.one (.vp 0 0)),(4,.one (.vp 1 0)),(6,.one (.vp 2 0)),(7,.one (.i .i64))],[.pk true T122,.pk false T39sv,.pk false T189],[]⟩,[]),(.ret,⟨[(6,.one (.vp 1 0))],[.pk true T122,.pk false T189],[]⟩,[]),(.exit 0,⟨[(0,.one (.vp 0 0)),(4,.one (.vp 1 0)),(6,.one (.vp 2 0))],[.pk true T122,.pk false T39sv,.pk false T189],[]⟩,[])],[]⟩,⟨15,[(.normal,⟨[(0,.one (.vp 0 0)),(4,.one (.vp 1 0)),(6,.one (.vp 2 0)),(66,.one .b)],[.pk true T122,.pk false T39sv,.pk false T189],[]⟩,[])],[]⟩,⟨8,[(.normal,⟨[(0,.one (.vp 0 0)),(4,.one (.vp 1 0)),(6,.one (.vp 2 0)),(9,.one (.i .i64))],[.pk true T122,.pk false T39sv,.pk false T189],[]⟩,[]),(.ret,⟨[(6,.one (.vp 1 0))],[.pk true T122,.pk false T189],[]⟩,[]),(.exit 4,⟨[(0,.one (.vp 0 0)),(4,.one (.vp 1 0)),(6,.one (.vp 2 0))],[.pk true T122,.pk false T39sv,.pk false T189],[]⟩,[])],[]⟩] [] [] mo Tryz.func161 rfl rfl (by kernel_rfl) (by kernel_rfl) (by kernel_rfl) rfl
theorem k161 (a0:Den T122) (a1:Den T39s) (a2:Den i6):e161.f (a0,a1,a2)=s_l21Given (a0,a1,a2):=by kernel_rfl
noncomputable def n161:Ent Tryz.prog ⟨[.w T122,.v T39s,.v i6],[T189],false⟩:=⟨161,s_l21Given,fun ⟨a0,a1,a2⟩ y hs h=>e161.ok _ y hs ((k161 a0 a1 a2).trans h)⟩
noncomputable def e113:Ent Tryz.prog ⟨[.w T122,.v T39s,.v i6],[(.vw T189),T39sv],false⟩:=genE [⟨_,n10163,none,none⟩,⟨_,n35,none,none⟩,⟨_,n159,none,none⟩,⟨_,n160,none,none⟩,⟨_,n161,none,none⟩,⟨_,n162,none,none⟩] 113 _ [.t 6,.c 7 (some 22)] [⟨24,[(.normal,⟨[(0,.one (.vp 0 0)),(4,.one (.vp 1 0)),(7,.one (.vp 2 0)),(8,.one (.ref 3)),(24,.one .b)],[.pk true T122,.pk false T39sv,.pk false T39s,.sl T189],[]⟩,[])],[]⟩,⟨18,[(.normal,⟨[(0,.one (.vp 0 0)),(4,.one (.vp 1 0)),(7,.one (.vp 2 0)),(8,.one (.ref 3)),(12,.one (.vp 4 0)),(39,.one .b)],[.pk true T122,.pk false T39sv,.pk false T39s,.sl T189,.pk false T189],[]⟩,[])],[]⟩,⟨15,[(.normal,⟨[(0,.one (.vp 0 0)),(4,.one (.vp 1 0)),(7,.one (.vp 2 0)),(8,.one (.ref 3)),(12,.one (.vp 4 0)),(50,.one .b)],[.pk true T122,.pk false T39sv,.pk false T39s,.sl T189,.pk false T189],[]⟩,[])],[]⟩,⟨13,[(.normal,⟨[(0,.one (.vp 0 0)),(4,.one (.vp 1 0)),(7,.one (.vp 2 0)),(8,.one (.ref 3)),(12,.one (.vp 4 0)),(66,.one .b)],[.pk true T122,.pk false T39sv,.pk false T39s,.sl T189,.pk false T189],[]⟩,[])],[]⟩,⟨8,[(.normal,⟨[(0,.one (.vp 0 0)),(4,.one (.vp 1 0)),(7,.one (.vp 2 0)),(8,.one (.ref 3)),(10,.one (.i .i64)),(12,.one (.vp 4 0))],[.pk true T122,.pk false T39sv,.pk false T39s,.sl T189,.pk false T189],[]⟩,[])],[]⟩,⟨2,[(.normal,⟨[(0,.one (.vp 0 0)),(4,.one (.vp 1 0)),(7,.one (.vp 2 0)),(8,.one (.ref 3)),(10,.one (.i .i64)),(11,.one (.i .i64))],[.pk true T122,.pk false T39sv,.pk false T39s,.sl T189],[]⟩,[]),(.exit 0,⟨[(4,.one (.vp 1 0)),(7,.one (.vp 2 0)),(8,.one (.ref 3))],[.pk true T122,.pk false T39sv,.pk false T39s,.sl T189],[]⟩,[])],[]⟩] [T189,T189] [] mo Tryz.func113 rfl rfl (by kernel_rfl) (by kernel_rfl) (by kernel_rfl) rfl
theorem k113 (a0:Den T122) (a1:Den T39s) (a2:Den i6):e113.f (a0,a1,a2)=s_l21Plays (a0,a1,a2):=by kernel_rfl
noncomputable def n113:Ent Tryz.prog ⟨[.w T122,.v T39s,.v i6],[(.vw T189),T39sv],false⟩:=⟨113,s_l21Plays,fun ⟨a0,a1,a2⟩ y hs h=>e113.ok _ y hs ((k113 a0 a1 a2).trans h)⟩
noncomputable def e60:Ent Tryz.prog ⟨[.w T122],[T39sv],false⟩:=genE [⟨_,n114,none,none⟩,⟨_,n35,none,none⟩,⟨_,n113,none,none⟩] 60 _ [.c 2 (some 22)] [] [i6] [] mo Tryz.func60 rfl rfl (by kernel_rfl) (by kernel_rfl) (by kernel_rfl) rfl
theorem k60 (a0:Den T122):e60.f (a0)=s_l21Flow (a0):=by kernel_rfl
noncomputable def n60:Ent Tryz.prog ⟨[.w T122],[T39sv],false⟩:=⟨60,s_l21Flow,fun a0 y hs h=>e60.ok _ y hs ((k60 a0).trans h)⟩
noncomputable def e37:Ent Tryz.prog ⟨[.w T122,.v i6],[T24],false⟩:=genE [⟨_,n33,none,none⟩,⟨_,n35,none,none⟩] 37 _ [.c 4 (some 10)] [⟨2,[(.normal,⟨[(4,.one (.vp 1 0)),(5,.one (.vp 2 0))],[.pk true T122,.pk false T24,.pk false T24],[]⟩,[])],[]⟩] [i6] [] mo Tryz.func37 rfl rfl (by kernel_rfl) (by kernel_rfl) (by kernel_rfl) rfl
theorem k37 (a0:Den T122) (a1:Den i6):e37.f (a0,a1)=s_l20AnyJob (a0,a1):=by kernel_rfl
noncomputable def n37:Ent Tryz.prog ⟨[.w T122,.v i6],[T24],false⟩:=⟨37,s_l20AnyJob,fun ⟨a0,a1⟩ y hs h=>e37.ok _ y hs ((k37 a0 a1).trans h)⟩
noncomputable def e124:Ent Tryz.prog ⟨[.w T122,.v T85],[T85],false⟩:=genE [⟨_,n102,none,none⟩,⟨_,n35,none,none⟩,⟨_,n158,none,none⟩,⟨_,n157,none,none⟩] 124 _ [.c 4 (some 2)] [⟨26,[(.normal,⟨[(0,.one (.vp 0 0)),(3,.one (.vp 1 0)),(4,.one (.vp 2 0)),(16,.one .b)],[.pk true T122,.pk false T85,.pk false T85],[]⟩,[])],[]⟩,⟨2,[(.normal,⟨[(3,.one (.vp 1 0)),(4,.one (.vp 2 0))],[.pk true T122,.pk false T85,.pk false T85],[]⟩,[])],[]⟩] [T163,i6,i6,i6] [(9,[100003]),(8,[100003])] mo Tryz.func124 rfl rfl (by kernel_rfl) (by kernel_rfl) (by kernel_rfl) rfl
theorem k124 (a0:Den T122) (a1:Den T85):e124.f (a0,a1)=s_l21BadOp (a0,a1):=by kernel_rfl
noncomputable def n124:Ent Tryz.prog ⟨[.w T122,.v T85],[T85],false⟩:=⟨124,s_l21BadOp,fun ⟨a0,a1⟩ y hs h=>e124.ok _ y hs ((k124 a0 a1).trans h)⟩
noncomputable def e69:Ent Tryz.prog ⟨[.w T122,.v i6],[T24,T37],false⟩:=genE [⟨_,n10124,(some 87),none⟩,⟨_,n60,none,none⟩,⟨_,n72,none,none⟩,⟨_,n35,none,none⟩,⟨_,n102,none,none⟩,⟨_,n123,none,none⟩,⟨_,n37,none,none⟩,⟨_,n124,none,none⟩] 69 _ [.c 4 (some 10),.c 5 (some 8)] [⟨46,[(.normal,⟨[(0,.one (.vp 0 0)),(4,.one (.vp 1 0)),(5,.one (.vp 2 0)),(6,.one (.vp 3 0)),(7,.one (.vp 4 0)),(21,.one .b)],[.pk true T122,.pk false T24,.pk false T37,.pk false T39sv,.pk false T37],[]⟩,[])],[]⟩,⟨39,[(.normal,⟨[(0,.one (.vp 0 0)),(4,.one (.vp 1 0)),(5,.one (.vp 2 0)),(6,.one (.vp 3 0)),(7,.one (.vp 4 0)),(8,.one (.i .i64))],[.pk true T122,.pk false T24,.pk false T37,.pk false T39sv,.pk false T37],[]⟩,[]),(.exit 0,⟨[(0,.one (.vp 0 0)),(4,.one (.vp 1 0)),(5,.one (.vp 2 0)),(6,.one (.vp 3 0)),(7,.one (.vp 4 0))],[.pk true T122,.pk false T24,.pk false T37,.pk false T39sv,.pk false T37],[]⟩,[])],[]⟩,⟨30,[(.normal,⟨[(0,.one (.vp 0 0)),(4,.one (.vp 1 0)),(5,.one (.vp 2 0)),(6,.one (.vp 3 0)),(7,.one (.vp 4 0)),(9,.one (.i .i64))],[.pk true T122,.pk false T24,.pk false T37,.pk false T39sv,.pk false T37],[]⟩,[]),(.exit 2,⟨[(0,.one (.vp 0 0)),(4,.one (.vp 1 0)),(5,.one (.vp 2 0)),(6,.one (.vp 3 0)),(7,.one (.vp 4 0))],[.pk true T122,.pk false T24,.pk false T37,.pk false T39sv,.pk false T37],[]⟩,[])],[]⟩,⟨28,[(.normal,⟨[(0,.one (.vp 0 0)),(4,.one (.vp 1 0)),(5,.one (.vp 2 0)),(6,.one (.vp 3 0)),(7,.one (.vp 4 0))],[.pk true T122,.pk false T24,.pk false T37,.pk false T39sv,.pk false T37],[]⟩,[])],[]⟩,⟨3,[(.normal,⟨[(4,.one (.vp 1 0)),(5,.one (.vp 2 0)),(6,.one (.vp 3 0)),(7,.one (.vp 4 0))],[.pk true T122,.pk false T24,.pk false T37,.pk false T39sv,.pk false T37],[]⟩,[])],[]⟩] [i6,i6,i6,i6] [(12,[100007]),(9,[100007])] mo Tryz.func69 rfl rfl (by kernel_rfl) (by kernel_rfl) (by kernel_rfl) rfl
theorem k69 (a0:Den T122) (a1:Den i6):e69.f (a0,a1)=s_l21Ckp (a0,a1):=by kernel_rfl
noncomputable def n69:Ent Tryz.prog ⟨[.w T122,.v i6],[T24,T37],false⟩:=⟨69,s_l21Ckp,fun ⟨a0,a1⟩ y hs h=>e69.ok _ y hs ((k69 a0 a1).trans h)⟩
noncomputable def e22:Ent Tryz.prog ⟨[.v (.sl (.int .u8))],[T24,T37],false⟩:=genE [⟨_,n32,none,none⟩,⟨_,n69,none,none⟩] 22 _ [.c 2 (some 10),.c 3 (some 8)] [] [] [] mo Tryz.func22 rfl rfl (by kernel_rfl) (by kernel_rfl) (by kernel_rfl) rfl
theorem k22 (a0:Den (.sl (.int .u8))):e22.f (a0)=s_DrawCkpSave (a0):=by kernel_rfl
noncomputable def n22:Ent Tryz.prog ⟨[.v (.sl (.int .u8))],[T24,T37],false⟩:=⟨22,s_DrawCkpSave,fun a0 y hs h=>e22.ok _ y hs ((k22 a0).trans h)⟩
noncomputable def e51:Ent Tryz.prog ⟨[.v i6,.v i6,.v i6],[.bool],false⟩:=genE [] 51 _ [.t 6] [] [] [] mo Tryz.func51 rfl rfl (by kernel_rfl) (by kernel_rfl) (by kernel_rfl) rfl
theorem k51 (a0:Den i6) (a1:Den i6) (a2:Den i6):e51.f (a0,a1,a2)=i_in (a0,a1,a2):=by kernel_rfl
noncomputable def n51:Ent Tryz.prog ⟨[.v i6,.v i6,.v i6],[.bool],false⟩:=⟨51,i_in,fun ⟨a0,a1,a2⟩ y hs h=>e51.ok _ y hs ((k51 a0 a1 a2).trans h)⟩
noncomputable def e87:Ent Tryz.prog ⟨[.v i6],[.bool],false⟩:=genE [⟨_,n51,none,none⟩] 87 _ [.t 2] [] [] [] mo Tryz.func87 rfl rfl (by kernel_rfl) (by kernel_rfl) (by kernel_rfl) rfl
theorem k87 (a0:Den i6):e87.f (a0)=i_tells (a0):=by kernel_rfl
noncomputable def n87:Ent Tryz.prog ⟨[.v i6],[.bool],false⟩:=⟨87,i_tells,fun a0 y hs h=>e87.ok _ y hs ((k87 a0).trans h)⟩
noncomputable def e38:Ent Tryz.prog ⟨[.v T24],[.bool],false⟩:=genE [⟨_,n51,none,none⟩,⟨_,n87,none,none⟩] 38 _ [.t 2] [⟨7,[(.normal,⟨[(1,.one (.vp 0 0)),(25,.one .b)],[.pk false T24],[]⟩,[])],[]⟩,⟨1,[(.normal,⟨[(1,.one (.vp 0 0)),(3,.one .b)],[.pk false T24],[]⟩,[])],[]⟩] [] [] mo Tryz.func38 rfl rfl (by kernel_rfl) (by kernel_rfl) (by kernel_rfl) rfl
theorem k38 (a0:Den T24):e38.f (a0)=i_JobOk (a0):=by kernel_rfl
noncomputable def n38:Ent Tryz.prog ⟨[.v T24],[.bool],false⟩:=⟨38,i_JobOk,fun a0 y hs h=>e38.ok _ y hs ((k38 a0).trans h)⟩
noncomputable def e131:Ent Tryz.prog ⟨[.v i6],[.bool],false⟩:=genE [⟨_,n51,none,none⟩] 131 _ [.t 2] [] [] [] mo Tryz.func131 rfl rfl (by kernel_rfl) (by kernel_rfl) (by kernel_rfl) rfl
theorem k131 (a0:Den i6):e131.f (a0)=i_CkpSafe_ok_1 (a0):=by kernel_rfl
noncomputable def n131:Ent Tryz.prog ⟨[.v i6],[.bool],false⟩:=⟨131,i_CkpSafe_ok_1,fun a0 y hs h=>e131.ok _ y hs ((k131 a0).trans h)⟩
noncomputable def e137:Ent Tryz.prog ⟨[.v i6],[.bool],false⟩:=genE [⟨_,n51,none,none⟩] 137 _ [.t 2] [] [] [] mo Tryz.func137 rfl rfl (by kernel_rfl) (by kernel_rfl) (by kernel_rfl) rfl
theorem k137 (a0:Den i6):e137.f (a0)=i_isTime (a0):=by kernel_rfl
noncomputable def n137:Ent Tryz.prog ⟨[.v i6],[.bool],false⟩:=⟨137,i_isTime,fun a0 y hs h=>e137.ok _ y hs ((k137 a0).trans h)⟩
noncomputable def e67:Ent Tryz.prog ⟨[.v i6],[.bool],false⟩:=genE [⟨_,n51,none,none⟩] 67 _ [.t 2] [] [] [] mo Tryz.func67 rfl rfl (by kernel_rfl) (by kernel_rfl) (by kernel_rfl) rfl
theorem k67 (a0:Den i6):e67.f (a0)=i_isKey (a0):=by kernel_rfl
noncomputable def n67:Ent Tryz.prog ⟨[.v i6],[.bool],false⟩:=⟨67,i_isKey,fun a0 y hs h=>e67.ok _ y hs ((k67 a0).trans h)⟩
noncomputable def e56:Ent Tryz.prog ⟨[.v T56],[.bool],false⟩:=genE [⟨_,n51,none,none⟩] 56 _ [.t 2] [] [] [] mo Tryz.func56 rfl rfl (by kernel_rfl) (by kernel_rfl) (by kernel_rfl) rfl
theorem k56 (a0:Den T56):e56.f (a0)=i_WinOk (a0):=by kernel_rfl
noncomputable def n56:Ent Tryz.prog ⟨[.v T56],[.bool],false⟩:=⟨56,i_WinOk,fun a0 y hs h=>e56.ok _ y hs ((k56 a0).trans h)⟩
noncomputable def e68:Ent Tryz.prog ⟨[.v T58],[.bool],false⟩:=genE [⟨_,n51,none,none⟩] 68 _ [.t 2] [] [] [] mo Tryz.func68 rfl rfl (by kernel_rfl) (by kernel_rfl) (by kernel_rfl) rfl
theorem k68 (a0:Den T58):e68.f (a0)=i_AggOk (a0):=by kernel_rfl
noncomputable def n68:Ent Tryz.prog ⟨[.v T58],[.bool],false⟩:=⟨68,i_AggOk,fun a0 y hs h=>e68.ok _ y hs ((k68 a0).trans h)⟩
noncomputable def e138:Ent Tryz.prog ⟨[.v T163,.v T24,.v i6],[.bool],false⟩:=genE [⟨_,n67,none,none⟩,⟨_,n56,none,none⟩,⟨_,n68,none,none⟩,⟨_,n51,none,none⟩] 138 _ [.t 6] [⟨4,[(.normal,⟨[(3,.one (.vp 0 0)),(4,.one (.vp 1 0)),(50,.one .b)],[.pk false T163,.pk false T24],[]⟩,[])],[]⟩] [] [] mo Tryz.func138 rfl rfl (by kernel_rfl) (by kernel_rfl) (by kernel_rfl) rfl
theorem k138 (a0:Den T163) (a1:Den T24) (a2:Den i6):e138.f (a0,a1,a2)=i_OpRow_ok (a0,a1,a2):=by kernel_rfl
noncomputable def n138:Ent Tryz.prog ⟨[.v T163,.v T24,.v i6],[.bool],false⟩:=⟨138,i_OpRow_ok,fun ⟨a0,a1,a2⟩ y hs h=>e138.ok _ y hs ((k138 a0 a1 a2).trans h)⟩
noncomputable def e199:Ent Tryz.prog ⟨[.v i6],[.bool],false⟩:=genE [] 199 _ [.t 2] [] [] [] mo Tryz.func199 rfl rfl (by kernel_rfl) (by kernel_rfl) (by kernel_rfl) rfl
theorem k199 (a0:Den i6):e199.f (a0)=g_isNaN_int (a0):=by kernel_rfl
noncomputable def n199:Ent Tryz.prog ⟨[.v i6],[.bool],false⟩:=⟨199,g_isNaN_int,fun a0 y hs h=>e199.ok _ y hs ((k199 a0).trans h)⟩
noncomputable def e182:Ent Tryz.prog ⟨[.v i6,.v i6],[i6],false⟩:=genE [⟨_,n199,none,none⟩] 182 _ [.t 4] [⟨10,[(.ret,⟨[(4,.one (.i .i64))],[],[]⟩,[]),(.normal,⟨[],[],[]⟩,[])],[]⟩] [] [] mo Tryz.func182 rfl rfl (by kernel_rfl) (by kernel_rfl) (by kernel_rfl) rfl
theorem k182 (a0:Den i6) (a1:Den i6):e182.f (a0,a1)=g_Compare_int (a0,a1):=by kernel_rfl
noncomputable def n182:Ent Tryz.prog ⟨[.v i6,.v i6],[i6],false⟩:=⟨182,g_Compare_int,fun ⟨a0,a1⟩ y hs h=>e182.ok _ y hs ((k182 a0 a1).trans h)⟩
noncomputable def e181:Ent Tryz.prog ⟨[.v (.sl i6)],[i6],false⟩:=genE [] 181 _ [.t 2] [⟨2,[(.normal,⟨[(8,.one (.i .i64))],[],[]⟩,[]),(.ret,⟨[(2,.one (.i .i64))],[],[]⟩,[]),(.exit 0,⟨[],[],[]⟩,[])],[]⟩] [] [] mo Tryz.func181 rfl rfl (by kernel_rfl) (by kernel_rfl) (by kernel_rfl) rfl
theorem k181 (a0:Den (.sl i6)):e181.f (a0)=g_Or_int (a0):=by kernel_rfl
noncomputable def n181:Ent Tryz.prog ⟨[.v (.sl i6)],[i6],false⟩:=⟨181,g_Or_int,fun a0 y hs h=>e181.ok _ y hs ((k181 a0).trans h)⟩
noncomputable def e183:Ent Tryz.prog ⟨[.v T56,.v T56],[i6],false⟩:=genE [⟨_,n182,none,none⟩,⟨_,n181,none,none⟩] 183 _ [.t 4] [] [i6] [] mo Tryz.func183 rfl rfl (by kernel_rfl) (by kernel_rfl) (by kernel_rfl) rfl
theorem k183 (a0:Den T56) (a1:Den T56):e183.f (a0,a1)=i_WinWin_compare (a0,a1):=by kernel_rfl
noncomputable def n183:Ent Tryz.prog ⟨[.v T56,.v T56],[i6],false⟩:=⟨183,i_WinWin_compare,fun ⟨a0,a1⟩ y hs h=>e183.ok _ y hs ((k183 a0 a1).trans h)⟩
noncomputable def e139:Ent Tryz.prog ⟨[.v T163,.v T163],[i6],false⟩:=genE [⟨_,n182,none,none⟩,⟨_,n183,none,none⟩,⟨_,n181,none,none⟩] 139 _ [.t 4] [] [i6] [] mo Tryz.func139 rfl rfl (by kernel_rfl) (by kernel_rfl) (by kernel_rfl) rfl
theorem k139 (a0:Den T163) (a1:Den T163):e139.f (a0,a1)=i_OpRow_compare (a0,a1):=by kernel_rfl
noncomputable def n139:Ent Tryz.prog ⟨[.v T163,.v T163],[i6],false⟩:=⟨139,i_OpRow_compare,fun ⟨a0,a1⟩ y hs h=>e139.ok _ y hs ((k139 a0 a1).trans h)⟩
noncomputable def e141:Ent Tryz.prog ⟨[.v T56,.v T56],[.bool],false⟩:=genE [] 141 _ [.t 4] [] [] [] mo Tryz.func141 rfl rfl (by kernel_rfl) (by kernel_rfl) (by kernel_rfl) rfl
theorem k141 (a0:Den T56) (a1:Den T56):e141.f (a0,a1)=i_WinTouch (a0,a1):=by kernel_rfl
noncomputable def n141:Ent Tryz.prog ⟨[.v T56,.v T56],[.bool],false⟩:=⟨141,i_WinTouch,fun ⟨a0,a1⟩ y hs h=>e141.ok _ y hs ((k141 a0 a1).trans h)⟩
noncomputable def e140:Ent Tryz.prog ⟨[.v T163,.rp T163],[.bool],false⟩:=genE [⟨_,n141,none,none⟩] 140 _ [.t 3] [] [] [] mo Tryz.func140 rfl rfl (by kernel_rfl) (by kernel_rfl) (by kernel_rfl) rfl
theorem k140 (a0:Den T163) (a1:Den T163):e140.f (a0,a1)=i_OpOk__1 (a0,a1):=by kernel_rfl
noncomputable def n140:Ent Tryz.prog ⟨[.v T163,.rp T163],[.bool],false⟩:=⟨140,i_OpOk__1,fun ⟨a0,a1⟩ y hs h=>e140.ok _ y hs ((k140 a0 a1).trans h)⟩
noncomputable def e184:Ent Tryz.prog ⟨[.v (.sl T163),.f T163 .bool],[i6],false⟩:=genE [] 184 _ [.t 4] [⟨2,[(.normal,⟨[(8,.one (.i .i64))],[],[]⟩,[]),(.ret,⟨[(4,.one (.i .i64))],[],[]⟩,[]),(.exit 0,⟨[],[],[]⟩,[])],[]⟩] [] [] mo Tryz.func184 rfl rfl (by kernel_rfl) (by kernel_rfl) (by kernel_rfl) rfl
theorem k184 (a0:Den (.sl T163)) (a1:Clo Tryz.prog T163 .bool):e184.f (a0,a1)=g_IndexFunc_OpRow (a0,a1.p):=by kernel_rfl
noncomputable def n184:Ent Tryz.prog ⟨[.v (.sl T163),.f T163 .bool],[i6],false⟩:=⟨184,fun x=>g_IndexFunc_OpRow (x.1,x.2.p),fun ⟨a0,a1⟩ y hs h=>e184.ok _ y hs ((k184 a0 a1).trans h)⟩
noncomputable def e142:Ent Tryz.prog ⟨[.v (.sl T163),.f T163 .bool],[.bool],false⟩:=genE [⟨_,n184,none,none⟩] 142 _ [.t 4] [] [] [] mo Tryz.func142 rfl rfl (by kernel_rfl) (by kernel_rfl) (by kernel_rfl) rfl
theorem k142 (a0:Den (.sl T163)) (a1:Clo Tryz.prog T163 .bool):e142.f (a0,a1)=g_ContainsFunc_OpRow (a0,a1.p):=by kernel_rfl
noncomputable def n142:Ent Tryz.prog ⟨[.v (.sl T163),.f T163 .bool],[.bool],false⟩:=⟨142,fun x=>g_ContainsFunc_OpRow (x.1,x.2.p),fun ⟨a0,a1⟩ y hs h=>e142.ok _ y hs ((k142 a0 a1).trans h)⟩
noncomputable def e92:Ent Tryz.prog ⟨[.v T24,.v T85],[.bool],false⟩:=genE [⟨_,n38,none,none⟩,⟨_,n137,none,none⟩,⟨_,n138,none,none⟩,⟨_,n139,none,none⟩,⟨_,n140,none,none⟩,⟨_,n142,none,none⟩] 92 _ [.t 4] [⟨18,[(.normal,⟨[(2,.one (.vp 0 0)),(3,.one (.vp 1 0)),(22,.one .b)],[.pk false T24,.pk false T85v],[]⟩,[])],[]⟩,⟨11,[(.normal,⟨[(2,.one (.vp 0 0)),(3,.one (.vp 1 0)),(6,.one (.vp 2 0)),(51,.one .b)],[.pk false T24,.pk false T85v,.pk false T163],[]⟩,[])],[]⟩,⟨7,[(.normal,⟨[(2,.one (.vp 0 0)),(3,.one (.vp 1 0)),(63,.one .b)],[.pk false T24,.pk false T85v],[]⟩,[])],[]⟩,⟨4,[(.ret,⟨[(4,.one .b)],[],[]⟩,[]),(.normal,⟨[(2,.one (.vp 0 0)),(3,.one (.vp 1 0))],[.pk false T24,.pk false T85v],[]⟩,[])],[]⟩,⟨2,[(.normal,⟨[(2,.one (.vp 0 0)),(3,.one (.vp 1 0)),(26,.one (.i .i64))],[.pk false T24,.pk false T85v],[]⟩,[]),(.ret,⟨[(4,.one .b)],[],[]⟩,[]),(.exit 0,⟨[],[],[]⟩,[])],[]⟩] [] [(8,[6])] mo Tryz.func92 rfl rfl (by kernel_rfl) (by kernel_rfl) (by kernel_rfl) rfl
theorem k92 (a0:Den T24) (a1:Den T85):e92.f (a0,a1)=i_OpOk (a0,a1):=by kernel_rfl
noncomputable def n92:Ent Tryz.prog ⟨[.v T24,.v T85],[.bool],false⟩:=⟨92,i_OpOk,fun ⟨a0,a1⟩ y hs h=>e92.ok _ y hs ((k92 a0 a1).trans h)⟩
noncomputable def e178:Ent Tryz.prog ⟨[.v (.sl i6),.f i6 .bool],[i6],false⟩:=genE [] 178 _ [.t 4] [⟨2,[(.normal,⟨[(8,.one (.i .i64))],[],[]⟩,[]),(.ret,⟨[(4,.one (.i .i64))],[],[]⟩,[]),(.exit 0,⟨[],[],[]⟩,[])],[]⟩] [] [] mo Tryz.func178 rfl rfl (by kernel_rfl) (by kernel_rfl) (by kernel_rfl) rfl
theorem k178 (a0:Den (.sl i6)) (a1:Clo Tryz.prog i6 .bool):e178.f (a0,a1)=g_IndexFunc_int (a0,a1.p):=by kernel_rfl
noncomputable def n178:Ent Tryz.prog ⟨[.v (.sl i6),.f i6 .bool],[i6],false⟩:=⟨178,fun x=>g_IndexFunc_int (x.1,x.2.p),fun ⟨a0,a1⟩ y hs h=>e178.ok _ y hs ((k178 a0 a1).trans h)⟩
noncomputable def e133:Ent Tryz.prog ⟨[.v (.sl i6),.f i6 .bool],[.bool],false⟩:=genE [⟨_,n178,none,none⟩] 133 _ [.t 4] [] [] [] mo Tryz.func133 rfl rfl (by kernel_rfl) (by kernel_rfl) (by kernel_rfl) rfl
theorem k133 (a0:Den (.sl i6)) (a1:Clo Tryz.prog i6 .bool):e133.f (a0,a1)=g_ContainsFunc_int (a0,a1.p):=by kernel_rfl
noncomputable def n133:Ent Tryz.prog ⟨[.v (.sl i6),.f i6 .bool],[.bool],false⟩:=⟨133,fun x=>g_ContainsFunc_int (x.1,x.2.p),fun ⟨a0,a1⟩ y hs h=>e133.ok _ y hs ((k133 a0 a1).trans h)⟩
noncomputable def e143:Ent Tryz.prog ⟨[.v i6],[.bool],false⟩:=genE [⟨_,n137,none,none⟩] 143 _ [.t 2] [] [] [] mo Tryz.func143 rfl rfl (by kernel_rfl) (by kernel_rfl) (by kernel_rfl) rfl
theorem k143 (a0:Den i6):e143.f (a0)=i_marksOk__1 (a0):=by kernel_rfl
noncomputable def n143:Ent Tryz.prog ⟨[.v i6],[.bool],false⟩:=⟨143,i_marksOk__1,fun a0 y hs h=>e143.ok _ y hs ((k143 a0).trans h)⟩
noncomputable def e93:Ent Tryz.prog ⟨[.v T24,.v (.sl i6)],[.bool],false⟩:=genE [⟨_,n133,none,none⟩,⟨_,n143,none,none⟩] 93 _ [.t 4] [] [] [] mo Tryz.func93 rfl rfl (by kernel_rfl) (by kernel_rfl) (by kernel_rfl) rfl
theorem k93 (a0:Den T24) (a1:Den (.sl i6)):e93.f (a0,a1)=i_marksOk (a0,a1):=by kernel_rfl
noncomputable def n93:Ent Tryz.prog ⟨[.v T24,.v (.sl i6)],[.bool],false⟩:=⟨93,i_marksOk,fun ⟨a0,a1⟩ y hs h=>e93.ok _ y hs ((k93 a0 a1).trans h)⟩
noncomputable def e135:Ent Tryz.prog ⟨[.v (.sl i6)],[i6],false⟩:=genE [] 135 _ [.t 2] [⟨2,[(.normal,⟨[(3,.one (.i .i64)),(4,.one (.i .i64))],[],[]⟩,[]),(.exit 0,⟨[(3,.one (.i .i64))],[],[]⟩,[])],[]⟩] [] [] mo Tryz.func135 rfl rfl (by kernel_rfl) (by kernel_rfl) (by kernel_rfl) rfl
theorem k135 (a0:Den (.sl i6)):e135.f (a0)=g_Min_int (a0):=by kernel_rfl
noncomputable def n135:Ent Tryz.prog ⟨[.v (.sl i6)],[i6],false⟩:=⟨135,g_Min_int,fun a0 y hs h=>e135.ok _ y hs ((k135 a0).trans h)⟩
noncomputable def e82:Ent Tryz.prog ⟨[.v T119,.v T24],[.bool],false⟩:=genE [⟨_,n92,none,none⟩,⟨_,n93,none,none⟩,⟨_,n135,none,none⟩] 82 _ [.t 4] [] [] [] mo Tryz.func82 rfl rfl (by kernel_rfl) (by kernel_rfl) (by kernel_rfl) rfl
theorem k82 (a0:Den T119) (a1:Den T24):e82.f (a0,a1)=i_CkpSnap_ok (a0,a1):=by kernel_rfl
noncomputable def n82:Ent Tryz.prog ⟨[.v T119,.v T24],[.bool],false⟩:=⟨82,i_CkpSnap_ok,fun ⟨a0,a1⟩ y hs h=>e82.ok _ y hs ((k82 a0 a1).trans h)⟩
noncomputable def e132:Ent Tryz.prog ⟨[.v T119,.rp T24],[.bool],false⟩:=genE [⟨_,n82,none,none⟩] 132 _ [.t 3] [] [] [] mo Tryz.func132 rfl rfl (by kernel_rfl) (by kernel_rfl) (by kernel_rfl) rfl
theorem k132 (a0:Den T119) (a1:Den T24):e132.f (a0,a1)=i_CkpSafe_ok_2 (a0,a1):=by kernel_rfl
noncomputable def n132:Ent Tryz.prog ⟨[.v T119,.rp T24],[.bool],false⟩:=⟨132,i_CkpSafe_ok_2,fun ⟨a0,a1⟩ y hs h=>e132.ok _ y hs ((k132 a0 a1).trans h)⟩
noncomputable def e179:Ent Tryz.prog ⟨[.v (.sl T119),.f T119 .bool],[i6],false⟩:=genE [] 179 _ [.t 4] [⟨2,[(.normal,⟨[(8,.one (.i .i64))],[],[]⟩,[]),(.ret,⟨[(4,.one (.i .i64))],[],[]⟩,[]),(.exit 0,⟨[],[],[]⟩,[])],[]⟩] [] [] mo Tryz.func179 rfl rfl (by kernel_rfl) (by kernel_rfl) (by kernel_rfl) rfl
theorem k179 (a0:Den (.sl T119)) (a1:Clo Tryz.prog T119 .bool):e179.f (a0,a1)=g_IndexFunc_CkpSnap (a0,a1.p):=by kernel_rfl
noncomputable def n179:Ent Tryz.prog ⟨[.v (.sl T119),.f T119 .bool],[i6],false⟩:=⟨179,fun x=>g_IndexFunc_CkpSnap (x.1,x.2.p),fun ⟨a0,a1⟩ y hs h=>e179.ok _ y hs ((k179 a0 a1).trans h)⟩
noncomputable def e134:Ent Tryz.prog ⟨[.v (.sl T119),.f T119 .bool],[.bool],false⟩:=genE [⟨_,n179,none,none⟩] 134 _ [.t 4] [] [] [] mo Tryz.func134 rfl rfl (by kernel_rfl) (by kernel_rfl) (by kernel_rfl) rfl
theorem k134 (a0:Den (.sl T119)) (a1:Clo Tryz.prog T119 .bool):e134.f (a0,a1)=g_ContainsFunc_CkpSnap (a0,a1.p):=by kernel_rfl
noncomputable def n134:Ent Tryz.prog ⟨[.v (.sl T119),.f T119 .bool],[.bool],false⟩:=⟨134,fun x=>g_ContainsFunc_CkpSnap (x.1,x.2.p),fun ⟨a0,a1⟩ y hs h=>e134.ok _ y hs ((k134 a0 a1).trans h)⟩
noncomputable def e81:Ent Tryz.prog ⟨[.v T35,.v T24],[.bool],false⟩:=genE [⟨_,n131,none,none⟩,⟨_,n132,none,none⟩,⟨_,n51,none,none⟩,⟨_,n133,none,none⟩,⟨_,n134,none,none⟩] 81 _ [.t 4] [] [] [(1,[3])] mo Tryz.func81 rfl rfl (by kernel_rfl) (by kernel_rfl) (by kernel_rfl) rfl
theorem k81 (a0:Den T35) (a1:Den T24):e81.f (a0,a1)=i_CkpSafe_ok (a0,a1):=by kernel_rfl
noncomputable def n81:Ent Tryz.prog ⟨[.v T35,.v T24],[.bool],false⟩:=⟨81,i_CkpSafe_ok,fun ⟨a0,a1⟩ y hs h=>e81.ok _ y hs ((k81 a0 a1).trans h)⟩
noncomputable def e83:Ent Tryz.prog ⟨[.v T119],[.bool],false⟩:=genE [] 83 _ [.t 2] [] [] [] mo Tryz.func83 rfl rfl (by kernel_rfl) (by kernel_rfl) (by kernel_rfl) rfl
theorem k83 (a0:Den T119):e83.f (a0)=i_CkpSnap_empty (a0):=by kernel_rfl
noncomputable def n83:Ent Tryz.prog ⟨[.v T119],[.bool],false⟩:=⟨83,i_CkpSnap_empty,fun a0 y hs h=>e83.ok _ y hs ((k83 a0).trans h)⟩
noncomputable def e31:Ent Tryz.prog ⟨[.v T24,.v T37],[.bool],false⟩:=genE [⟨_,n38,none,none⟩,⟨_,n81,none,none⟩,⟨_,n51,none,none⟩,⟨_,n82,none,none⟩,⟨_,n83,none,none⟩] 31 _ [.t 4] [⟨28,[(.normal,⟨[(2,.one (.vp 0 0)),(3,.one (.vp 1 0)),(39,.one .b)],[.pk false T24,.pk false T37v],[]⟩,[])],[]⟩,⟨25,[(.normal,⟨[(2,.one (.vp 0 0)),(3,.one (.vp 1 0)),(61,.one .b)],[.pk false T24,.pk false T37v],[]⟩,[])],[]⟩,⟨18,[(.normal,⟨[(2,.one (.vp 0 0)),(3,.one (.vp 1 0)),(80,.one .b)],[.pk false T24,.pk false T37v],[]⟩,[])],[]⟩,⟨13,[(.normal,⟨[(2,.one (.vp 0 0)),(3,.one (.vp 1 0)),(65,.one (.i .i64))],[.pk false T24,.pk false T37v],[]⟩,[]),(.ret,⟨[(4,.one .b)],[],[]⟩,[]),(.exit 0,⟨[(2,.one (.vp 0 0)),(3,.one (.vp 1 0))],[.pk false T24,.pk false T37v],[]⟩,[])],[]⟩,⟨7,[(.normal,⟨[(2,.one (.vp 0 0)),(3,.one (.vp 1 0)),(118,.one .b)],[.pk false T24,.pk false T37v],[]⟩,[])],[]⟩,⟨2,[(.normal,⟨[(2,.one (.vp 0 0)),(3,.one (.vp 1 0)),(85,.one (.i .i64))],[.pk false T24,.pk false T37v],[]⟩,[]),(.ret,⟨[(4,.one .b)],[],[]⟩,[]),(.exit 2,⟨[],[],[]⟩,[])],[]⟩] [] [] mo Tryz.func31 rfl rfl (by kernel_rfl) (by kernel_rfl) (by kernel_rfl) rfl
theorem k31 (a0:Den T24) (a1:Den T37):e31.f (a0,a1)=i_CkpOk (a0,a1):=by kernel_rfl
noncomputable def n31:Ent Tryz.prog ⟨[.v T24,.v T37],[.bool],false⟩:=⟨31,i_CkpOk,fun ⟨a0,a1⟩ y hs h=>e31.ok _ y hs ((k31 a0 a1).trans h)⟩
theorem clnil125 (n c:Nat) (w:World):Calls Tryz.prog 125 #[.slice none n c] w fun e w'=>e=.returned (.slice none 0 0)∧w'=w:=by
 have mixed:=mo
 have q22:∀ (w:World) (a:Option Addr) (n c n' c':Nat),(binOp .eql 31 (.slice a n c) (.slice none n' c')).run Tryz.prog w=.ok (.bool a.isNone) w:=fun w a n c n' c'=>Lib.run_eql_slice_nil w _ _ a n c n' c' Tryz.underlying31
 go_enter Tryz.func125,Tryz.ntmps125
 go_wp2
 go_ret
 exact ⟨rfl,rfl⟩
set_option maxHeartbeats 2000000 in
theorem cl125 (i0:TypeInfo) (z:Value) (hi:Tryz.prog.info? 3=some i0) (hz0:i0.zero=some z) (hz1:i0.size=1) (hz2:i0.bytes=8) (hzs:z.cells.size=1) (ad:Addr) (n c:Nat) (news:List Value) (w:World) (hl:news.length=n*1) (hb:n*8≤140737488351232) (hc:∀ j u,news[j]? = some u→w.cell? (ad.add j)=some u) (h1:∀ u∈news,u.oneCell'=true) :
  Calls Tryz.prog 125 #[.slice (some ad) n c] w fun e w'=>∃ v',e=.returned v'∧w'.ownsRow w.heap.size 3 1 v' n news∧Below w.heap.size w w':=by
 have mixed:=mo
 have q22:∀ (w:World) (a:Option Addr) (n c n' c':Nat),(binOp .eql 31 (.slice a n c) (.slice none n' c')).run Tryz.prog w=.ok (.bool a.isNone) w:=fun w a n c n' c'=>Lib.run_eql_slice_nil w _ _ a n c n' c' Tryz.underlying31
 have u22:∀ w,Sem.run Tryz.prog (underlying 31) w=.ok (TypeDesc.slice 3) w:=run_underlying Tryz.underlying31
 have A:Aside (∀ j u,news[j]? = some u→w.cell? (ad.add j)=some u):=hc
 clear hc
 go_enter Tryz.func125,Tryz.ntmps125
 go_wp2_with (at_builtin;refine wpList_append_own _ rfl _ _ 31 rfl w.heap.size 3 i0 z 1 8 Tryz.underlying31 hi hz0 hz1 hz2 hzs (by decide) _ _ _ rfl (World.ownsRow_made w #[] 0 (Nat.le_refl _) (Nat.zero_le _) (by simp)) ad n c news rfl ?qc1 ?qc2 ?qc3 ?qc4 ?qc5 ?qc6 ?_)
 case qc1=>exact hl
 case qc2 =>
  intro j u hj
  exact Lib.cell?_alloc_some _ (A.out j u hj)
 case qc3=>exact h1
 case qc4=>rw [Nat.zero_add];simp only [maxLen];omega
 case qc5=>rw [Nat.zero_add];omega
 case qc6=>simp
 intro v' w1 hown hgrow hnil
 go_wp2
 go_ret
 refine ⟨v',rfl,by simpa using hown,?_⟩
 exact ((Below.refl _ w).alloc (Nat.le_refl _) _).grown hgrow (by simp) (by intro k hk;simp [Value.ownBlock] at hk;omega)
noncomputable def n125:Ent Tryz.prog ⟨[.v (.sl i6)],[.sl i6],false⟩:=cloneE 125 i6 8 3 ⟨_,Tryz.func125,by kernel_rfl,by kernel_rfl⟩ rfl clnil125
 (fun ad n c news w=>cl125 ((Tryz.prog.info? 3).getD default) (((Tryz.prog.info? 3).getD default).zero.getD default) (by kernel_rfl) (by kernel_rfl) (by kernel_rfl) (by kernel_rfl) (by kernel_rfl) ad n c news w)
theorem clnil126 (n c:Nat) (w:World):Calls Tryz.prog 126 #[.slice none n c] w fun e w'=>e=.returned (.slice none 0 0)∧w'=w:=by
 have mixed:=mo
 have q22:∀ (w:World) (a:Option Addr) (n c n' c':Nat),(binOp .eql 32 (.slice a n c) (.slice none n' c')).run Tryz.prog w=.ok (.bool a.isNone) w:=fun w a n c n' c'=>Lib.run_eql_slice_nil w _ _ a n c n' c' Tryz.underlying32
 go_enter Tryz.func126,Tryz.ntmps126
 go_wp2
 go_ret
 exact ⟨rfl,rfl⟩
set_option maxHeartbeats 2000000 in
theorem cl126 (i0:TypeInfo) (z:Value) (hi:Tryz.prog.info? 4=some i0) (hz0:i0.zero=some z) (hz1:i0.size=1) (hz2:i0.bytes=1) (hzs:z.cells.size=1) (ad:Addr) (n c:Nat) (news:List Value) (w:World) (hl:news.length=n*1) (hb:n*1≤140737488351232) (hc:∀ j u,news[j]? = some u→w.cell? (ad.add j)=some u) (h1:∀ u∈news,u.oneCell'=true) :
  Calls Tryz.prog 126 #[.slice (some ad) n c] w fun e w'=>∃ v',e=.returned v'∧w'.ownsRow w.heap.size 4 1 v' n news∧Below w.heap.size w w':=by
 have mixed:=mo
 have q22:∀ (w:World) (a:Option Addr) (n c n' c':Nat),(binOp .eql 32 (.slice a n c) (.slice none n' c')).run Tryz.prog w=.ok (.bool a.isNone) w:=fun w a n c n' c'=>Lib.run_eql_slice_nil w _ _ a n c n' c' Tryz.underlying32
 have u22:∀ w,Sem.run Tryz.prog (underlying 32) w=.ok (TypeDesc.slice 4) w:=run_underlying Tryz.underlying32
 have A:Aside (∀ j u,news[j]? = some u→w.cell? (ad.add j)=some u):=hc
 clear hc
 go_enter Tryz.func126,Tryz.ntmps126
 go_wp2_with (at_builtin;refine wpList_append_own _ rfl _ _ 32 rfl w.heap.size 4 i0 z 1 1 Tryz.underlying32 hi hz0 hz1 hz2 hzs (by decide) _ _ _ rfl (World.ownsRow_made w #[] 0 (Nat.le_refl _) (Nat.zero_le _) (by simp)) ad n c news rfl ?qc1 ?qc2 ?qc3 ?qc4 ?qc5 ?qc6 ?_)
 case qc1=>exact hl
 case qc2 =>
  intro j u hj
  exact Lib.cell?_alloc_some _ (A.out j u hj)
 case qc3=>exact h1
 case qc4=>rw [Nat.zero_add];simp only [maxLen];omega
 case qc5=>rw [Nat.zero_add];omega
 case qc6=>simp
 intro v' w1 hown hgrow hnil
 go_wp2
 go_ret
 refine ⟨v',rfl,by simpa using hown,?_⟩
 exact ((Below.refl _ w).alloc (Nat.le_refl _) _).grown hgrow (by simp) (by intro k hk;simp [Value.ownBlock] at hk;omega)
noncomputable def n126:Ent Tryz.prog ⟨[.v (.sl .bool)],[.sl .bool],false⟩:=cloneE 126 .bool 1 4 ⟨_,Tryz.func126,by kernel_rfl,by kernel_rfl⟩ rfl clnil126
 (fun ad n c news w=>cl126 ((Tryz.prog.info? 4).getD default) (((Tryz.prog.info? 4).getD default).zero.getD default) (by kernel_rfl) (by kernel_rfl) (by kernel_rfl) (by kernel_rfl) (by kernel_rfl) ad n c news w)
theorem clnil144 (n c:Nat) (w:World):Calls Tryz.prog 144 #[.slice none n c] w fun e w'=>e=.returned (.slice none 0 0)∧w'=w:=by
 have mixed:=mo
 have q22:∀ (w:World) (a:Option Addr) (n c n' c':Nat),(binOp .eql 83 (.slice a n c) (.slice none n' c')).run Tryz.prog w=.ok (.bool a.isNone) w:=fun w a n c n' c'=>Lib.run_eql_slice_nil w _ _ a n c n' c' Tryz.underlying83
 go_enter Tryz.func144,Tryz.ntmps144
 go_wp2
 go_ret
 exact ⟨rfl,rfl⟩
set_option maxHeartbeats 2000000 in
theorem cl144 (i0:TypeInfo) (z:Value) (hi:Tryz.prog.info? 163=some i0) (hz0:i0.zero=some z) (hz1:i0.size=13) (hz2:i0.bytes=104) (hzs:z.cells.size=13) (ad:Addr) (n c:Nat) (news:List Value) (w:World) (hl:news.length=n*13) (hb:n*104≤140737488351232) (hc:∀ j u,news[j]? = some u→w.cell? (ad.add j)=some u) (h1:∀ u∈news,u.oneCell'=true) :
  Calls Tryz.prog 144 #[.slice (some ad) n c] w fun e w'=>∃ v',e=.returned v'∧w'.ownsRow w.heap.size 163 13 v' n news∧Below w.heap.size w w':=by
 have mixed:=mo
 have q22:∀ (w:World) (a:Option Addr) (n c n' c':Nat),(binOp .eql 83 (.slice a n c) (.slice none n' c')).run Tryz.prog w=.ok (.bool a.isNone) w:=fun w a n c n' c'=>Lib.run_eql_slice_nil w _ _ a n c n' c' Tryz.underlying83
 have u22:∀ w,Sem.run Tryz.prog (underlying 83) w=.ok (TypeDesc.slice 163) w:=run_underlying Tryz.underlying83
 have A:Aside (∀ j u,news[j]? = some u→w.cell? (ad.add j)=some u):=hc
 clear hc
 go_enter Tryz.func144,Tryz.ntmps144
 go_wp2_with (at_builtin;refine wpList_append_own _ rfl _ _ 83 rfl w.heap.size 163 i0 z 13 104 Tryz.underlying83 hi hz0 hz1 hz2 hzs (by decide) _ _ _ rfl (World.ownsRow_made w #[] 0 (Nat.le_refl _) (Nat.zero_le _) (by simp)) ad n c news rfl ?qc1 ?qc2 ?qc3 ?qc4 ?qc5 ?qc6 ?_)
 case qc1=>exact hl
 case qc2 =>
  intro j u hj
  exact Lib.cell?_alloc_some _ (A.out j u hj)
 case qc3=>exact h1
 case qc4=>rw [Nat.zero_add];simp only [maxLen];omega
 case qc5=>rw [Nat.zero_add];omega
 case qc6=>simp
 intro v' w1 hown hgrow hnil
 go_wp2
 go_ret
 refine ⟨v',rfl,by simpa using hown,?_⟩
 exact ((Below.refl _ w).alloc (Nat.le_refl _) _).grown hgrow (by simp) (by intro k hk;simp [Value.ownBlock] at hk;omega)
noncomputable def n144:Ent Tryz.prog ⟨[.v (.sl T163)],[.sl T163],false⟩:=cloneE 144 T163 104 163 ⟨_,Tryz.func144,by kernel_rfl,by kernel_rfl⟩ rfl clnil144
 (fun ad n c news w=>cl144 ((Tryz.prog.info? 163).getD default) (((Tryz.prog.info? 163).getD default).zero.getD default) (by kernel_rfl) (by kernel_rfl) (by kernel_rfl) (by kernel_rfl) (by kernel_rfl) ad n c news w)
noncomputable def e94:Ent Tryz.prog ⟨[.v T85],[T85],false⟩:=genE [⟨_,n144,none,none⟩] 94 _ [.c 2 (some 2)] [] [] [] mo Tryz.func94 rfl rfl (by kernel_rfl) (by kernel_rfl) (by kernel_rfl) rfl
theorem k94 (a0:Den T85):e94.f (a0)=i_OpState_copied (a0):=by kernel_rfl
noncomputable def n94:Ent Tryz.prog ⟨[.v T85],[T85],false⟩:=⟨94,i_OpState_copied,fun a0 y hs h=>e94.ok _ y hs ((k94 a0).trans h)⟩
noncomputable def e175:Ent Tryz.prog ⟨[.v T119],[T119],false⟩:=genE [⟨_,n94,none,none⟩,⟨_,n125,none,none⟩] 175 _ [.c 2 (some 3)] [] [] [] mo Tryz.func175 rfl rfl (by kernel_rfl) (by kernel_rfl) (by kernel_rfl) rfl
theorem k175 (a0:Den T119):e175.f (a0)=i_CkpSnap_copied (a0):=by kernel_rfl
noncomputable def n175:Ent Tryz.prog ⟨[.v T119],[T119],false⟩:=⟨175,i_CkpSnap_copied,fun a0 y hs h=>e175.ok _ y hs ((k175 a0).trans h)⟩
noncomputable def e127:Ent Tryz.prog ⟨[.v (.sl T119)],[(.sl T119)],false⟩:=genE [⟨_,n175,none,none⟩] 127 _ [.t 2] [⟨2,[(.normal,⟨[(3,.one (.ref 0)),(8,.one (.i .i64))],[.sl T119],[]⟩,[]),(.exit 0,⟨[(3,.one (.ref 0))],[.sl T119],[]⟩,[])],[]⟩] [T119] [] mo Tryz.func127 rfl rfl (by kernel_rfl) (by kernel_rfl) (by kernel_rfl) rfl
theorem k127 (a0:Den (.sl T119)):e127.f (a0)=i_snaps (a0):=by kernel_rfl
noncomputable def n127:Ent Tryz.prog ⟨[.v (.sl T119)],[(.sl T119)],false⟩:=⟨127,i_snaps,fun a0 y hs h=>e127.ok _ y hs ((k127 a0).trans h)⟩
noncomputable def e70:Ent Tryz.prog ⟨[.v T37],[T37],false⟩:=genE [⟨_,n125,none,none⟩,⟨_,n126,none,none⟩,⟨_,n127,none,none⟩] 70 _ [.c 2 (some 8)] [] [] [] mo Tryz.func70 rfl rfl (by kernel_rfl) (by kernel_rfl) (by kernel_rfl) rfl
theorem k70 (a0:Den T37):e70.f (a0)=i_CkpState_copied (a0):=by kernel_rfl
noncomputable def n70:Ent Tryz.prog ⟨[.v T37],[T37],false⟩:=⟨70,i_CkpState_copied,fun a0 y hs h=>e70.ok _ y hs ((k70 a0).trans h)⟩
noncomputable def e197:Ent Tryz.prog ⟨[.v (.int .u32),.v (.int .u32)],[(.int .u32),(.int .u32)],false⟩:=genE [] 197 _ [.t 4,.t 5] [] [] [] mo Tryz.func197 rfl rfl (by kernel_rfl) (by kernel_rfl) (by kernel_rfl) rfl
theorem k197 (a0:Den (.int .u32)) (a1:Den (.int .u32)):e197.f (a0,a1)=b_Mul32 (a0,a1):=by kernel_rfl
noncomputable def n197:Ent Tryz.prog ⟨[.v (.int .u32),.v (.int .u32)],[(.int .u32),(.int .u32)],false⟩:=⟨197,b_Mul32,fun ⟨a0,a1⟩ y hs h=>e197.ok _ y hs ((k197 a0 a1).trans h)⟩
noncomputable def e198:Ent Tryz.prog ⟨[.v (.int .u64),.v (.int .u64)],[(.int .u64),(.int .u64)],false⟩:=genE [] 198 _ [.t 4,.t 5] [] [] [] mo Tryz.func198 rfl rfl (by kernel_rfl) (by kernel_rfl) (by kernel_rfl) rfl
theorem k198 (a0:Den (.int .u64)) (a1:Den (.int .u64)):e198.f (a0,a1)=b_Mul64 (a0,a1):=by kernel_rfl
noncomputable def n198:Ent Tryz.prog ⟨[.v (.int .u64),.v (.int .u64)],[(.int .u64),(.int .u64)],false⟩:=⟨198,b_Mul64,fun ⟨a0,a1⟩ y hs h=>e198.ok _ y hs ((k198 a0 a1).trans h)⟩
noncomputable def e180:Ent Tryz.prog ⟨[.v (.int .u64),.v (.int .u64)],[(.int .u64),(.int .u64)],false⟩:=genE [⟨_,n197,none,none⟩,⟨_,n198,none,none⟩] 180 _ [.t 4,.t 5] [] [] [] mo Tryz.func180 rfl rfl (by kernel_rfl) (by kernel_rfl) (by kernel_rfl) rfl
theorem k180 (a0:Den (.int .u64)) (a1:Den (.int .u64)):e180.f (a0,a1)=b_Mul (a0,a1):=by kernel_rfl
noncomputable def n180:Ent Tryz.prog ⟨[.v (.int .u64),.v (.int .u64)],[(.int .u64),(.int .u64)],false⟩:=⟨180,b_Mul,fun ⟨a0,a1⟩ y hs h=>e180.ok _ y hs ((k180 a0 a1).trans h)⟩
noncomputable def e136:Ent Tryz.prog ⟨[.v (.sl i6),.v i6],[(.sl i6)],false⟩:=genE [⟨_,n180,none,none⟩] 136 _ [.t 4] [⟨10,[(.normal,⟨[(26,.one .b)],[],[]⟩,[])],[]⟩,⟨2,[(.normal,⟨[(7,.one (.ref 0)),(8,.one (.i .i64))],[.sl i6],[]⟩,[]),(.exit 0,⟨[(7,.one (.ref 0))],[.sl i6],[]⟩,[])],[]⟩] [i6] [] mo Tryz.func136 rfl rfl (by kernel_rfl) (by kernel_rfl) (by kernel_rfl) rfl
theorem k136 (a0:Den (.sl i6)) (a1:Den i6):e136.f (a0,a1)=g_Repeat_int (a0,a1):=by kernel_rfl
noncomputable def n136:Ent Tryz.prog ⟨[.v (.sl i6),.v i6],[(.sl i6)],false⟩:=⟨136,g_Repeat_int,fun ⟨a0,a1⟩ y hs h=>e136.ok _ y hs ((k136 a0 a1).trans h)⟩
noncomputable def e10091:Ent Tryz.prog ⟨[.w T37,.v T24],[],false⟩:=genE [⟨_,n136,none,none⟩] 91 _ [] [] [i6,.bool,T119] [] mo Tryz.func91 rfl rfl (by kernel_rfl) (by kernel_rfl) (by kernel_rfl) rfl
theorem k10091 (a0:Den T37) (a1:Den T24):e10091.f (a0,a1)=i_CkpState_idle_i (a0,a1):=by kernel_rfl
noncomputable def i10091:InE Tryz.prog:=genI 91 [] [i6,.bool,T119] Tryz.func91 rfl rfl (by kernel_rfl) (by kernel_rfl) (by kernel_rfl)
noncomputable def n10091:Ent Tryz.prog ⟨[.w T37,.v T24],[],false⟩:=⟨91,i_CkpState_idle_i,fun ⟨a0,a1⟩ y hs h=>e10091.ok _ y hs ((k10091 a0 a1).trans h)⟩
noncomputable def e176:Ent Tryz.prog ⟨[.v (.sl i6),.v i6],[i6],false⟩:=genE [] 176 _ [.t 4] [⟨2,[(.normal,⟨[(8,.one (.i .i64))],[],[]⟩,[]),(.ret,⟨[(4,.one (.i .i64))],[],[]⟩,[]),(.exit 0,⟨[],[],[]⟩,[])],[]⟩] [] [] mo Tryz.func176 rfl rfl (by kernel_rfl) (by kernel_rfl) (by kernel_rfl) rfl
theorem k176 (a0:Den (.sl i6)) (a1:Den i6):e176.f (a0,a1)=g_Index_int (a0,a1):=by kernel_rfl
noncomputable def n176:Ent Tryz.prog ⟨[.v (.sl i6),.v i6],[i6],false⟩:=⟨176,g_Index_int,fun ⟨a0,a1⟩ y hs h=>e176.ok _ y hs ((k176 a0 a1).trans h)⟩
noncomputable def e129:Ent Tryz.prog ⟨[.v (.sl i6),.v i6],[.bool],false⟩:=genE [⟨_,n176,none,none⟩] 129 _ [.t 4] [] [] [] mo Tryz.func129 rfl rfl (by kernel_rfl) (by kernel_rfl) (by kernel_rfl) rfl
theorem k129 (a0:Den (.sl i6)) (a1:Den i6):e129.f (a0,a1)=g_Contains_int (a0,a1):=by kernel_rfl
noncomputable def n129:Ent Tryz.prog ⟨[.v (.sl i6),.v i6],[.bool],false⟩:=⟨129,g_Contains_int,fun ⟨a0,a1⟩ y hs h=>e129.ok _ y hs ((k129 a0 a1).trans h)⟩
noncomputable def e177:Ent Tryz.prog ⟨[.v (.sl .bool),.v .bool],[i6],false⟩:=genE [] 177 _ [.t 4] [⟨2,[(.normal,⟨[(8,.one (.i .i64))],[],[]⟩,[]),(.ret,⟨[(4,.one (.i .i64))],[],[]⟩,[]),(.exit 0,⟨[],[],[]⟩,[])],[]⟩] [] [] mo Tryz.func177 rfl rfl (by kernel_rfl) (by kernel_rfl) (by kernel_rfl) rfl
theorem k177 (a0:Den (.sl .bool)) (a1:Den .bool):e177.f (a0,a1)=g_Index_bool (a0,a1):=by kernel_rfl
noncomputable def n177:Ent Tryz.prog ⟨[.v (.sl .bool),.v .bool],[i6],false⟩:=⟨177,g_Index_bool,fun ⟨a0,a1⟩ y hs h=>e177.ok _ y hs ((k177 a0 a1).trans h)⟩
noncomputable def e130:Ent Tryz.prog ⟨[.v (.sl .bool),.v .bool],[.bool],false⟩:=genE [⟨_,n177,none,none⟩] 130 _ [.t 4] [] [] [] mo Tryz.func130 rfl rfl (by kernel_rfl) (by kernel_rfl) (by kernel_rfl) rfl
theorem k130 (a0:Den (.sl .bool)) (a1:Den .bool):e130.f (a0,a1)=g_Contains_bool (a0,a1):=by kernel_rfl
noncomputable def n130:Ent Tryz.prog ⟨[.v (.sl .bool),.v .bool],[.bool],false⟩:=⟨130,g_Contains_bool,fun ⟨a0,a1⟩ y hs h=>e130.ok _ y hs ((k130 a0 a1).trans h)⟩
noncomputable def e76:Ent Tryz.prog ⟨[.w T37],[.bool],false⟩:=genE [⟨_,n129,none,none⟩,⟨_,n130,none,none⟩] 76 _ [.t 2] [] [] [] mo Tryz.func76 rfl rfl (by kernel_rfl) (by kernel_rfl) (by kernel_rfl) rfl
theorem k76 (a0:Den T37):e76.f (a0)=i_CkpState_ready (a0):=by kernel_rfl
noncomputable def n76:Ent Tryz.prog ⟨[.w T37],[.bool],false⟩:=⟨76,i_CkpState_ready,fun a0 y hs h=>e76.ok _ y hs ((k76 a0).trans h)⟩
noncomputable def e71:Ent Tryz.prog ⟨[.w T37,.v T24],[.bool],false⟩:=genE [⟨_,n10091,none,some i10091⟩,⟨_,n76,none,none⟩,⟨_,n136,none,none⟩] 71 _ [.t 4] [] [] [(2,[100000])] mo Tryz.func71 rfl rfl (by kernel_rfl) (by kernel_rfl) (by kernel_rfl) rfl
theorem k71 (a0:Den T37) (a1:Den T24):e71.f (a0,a1)=i_CkpState_save (a0,a1):=by kernel_rfl
noncomputable def n71:Ent Tryz.prog ⟨[.w T37,.v T24],[.bool],false⟩:=⟨71,i_CkpState_save,fun ⟨a0,a1⟩ y hs h=>e71.ok _ y hs ((k71 a0 a1).trans h)⟩
noncomputable def e23:Ent Tryz.prog ⟨[.v T24,.v T37],[T37,.bool],false⟩:=genE [⟨_,n31,none,none⟩,⟨_,n70,none,none⟩,⟨_,n71,none,none⟩] 23 _ [.c 4 (some 8),.t 5] [] [] [] mo Tryz.func23 rfl rfl (by kernel_rfl) (by kernel_rfl) (by kernel_rfl) rfl
theorem k23 (a0:Den T24) (a1:Den T37):e23.f (a0,a1)=i_CkpSave (a0,a1):=by kernel_rfl
noncomputable def n23:Ent Tryz.prog ⟨[.v T24,.v T37],[T37,.bool],false⟩:=⟨23,i_CkpSave,fun ⟨a0,a1⟩ y hs h=>e23.ok _ y hs ((k23 a0 a1).trans h)⟩
noncomputable def e29:Ent Tryz.prog ⟨[.v (.sl i6),.v (.sl i6)],[.bool],false⟩:=genE [] 29 _ [.t 4] [⟨2,[(.normal,⟨[(5,.one (.i .i64))],[],[]⟩,[]),(.ret,⟨[(4,.one .b)],[],[]⟩,[]),(.exit 0,⟨[],[],[]⟩,[])],[]⟩] [] [] mo Tryz.func29 rfl rfl (by kernel_rfl) (by kernel_rfl) (by kernel_rfl) rfl
theorem k29 (a0:Den (.sl i6)) (a1:Den (.sl i6)):e29.f (a0,a1)=l_frInts (a0,a1):=by kernel_rfl
noncomputable def n29:Ent Tryz.prog ⟨[.v (.sl i6),.v (.sl i6)],[.bool],false⟩:=⟨29,l_frInts,fun ⟨a0,a1⟩ y hs h=>e29.ok _ y hs ((k29 a0 a1).trans h)⟩
noncomputable def e80:Ent Tryz.prog ⟨[.v T85,.v T85],[.bool],false⟩:=genE [] 80 _ [.t 4] [⟨13,[(.normal,⟨[(2,.one (.vp 0 0)),(3,.one (.vp 1 0)),(19,.one .b)],[.pk false T85v,.pk false T85v],[]⟩,[])],[]⟩,⟨2,[(.normal,⟨[(2,.one (.vp 0 0)),(3,.one (.vp 1 0)),(5,.one (.i .i64))],[.pk false T85v,.pk false T85v],[]⟩,[]),(.ret,⟨[(4,.one .b)],[],[]⟩,[]),(.exit 0,⟨[],[],[]⟩,[])],[]⟩] [] [] mo Tryz.func80 rfl rfl (by kernel_rfl) (by kernel_rfl) (by kernel_rfl) rfl
theorem k80 (a0:Den T85) (a1:Den T85):e80.f (a0,a1)=l_frOp (a0,a1):=by kernel_rfl
noncomputable def n80:Ent Tryz.prog ⟨[.v T85,.v T85],[.bool],false⟩:=⟨80,l_frOp,fun ⟨a0,a1⟩ y hs h=>e80.ok _ y hs ((k80 a0 a1).trans h)⟩
noncomputable def e30:Ent Tryz.prog ⟨[.v (.sl T119),.v (.sl T119)],[.bool],false⟩:=genE [⟨_,n80,none,none⟩,⟨_,n29,none,none⟩] 30 _ [.t 4] [⟨7,[(.normal,⟨[(42,.one .b)],[],[]⟩,[])],[]⟩,⟨2,[(.normal,⟨[(5,.one (.i .i64))],[],[]⟩,[]),(.ret,⟨[(4,.one .b)],[],[]⟩,[]),(.exit 0,⟨[],[],[]⟩,[])],[]⟩] [] [] mo Tryz.func30 rfl rfl (by kernel_rfl) (by kernel_rfl) (by kernel_rfl) rfl
theorem k30 (a0:Den (.sl T119)) (a1:Den (.sl T119)):e30.f (a0,a1)=l_frSnaps (a0,a1):=by kernel_rfl
noncomputable def n30:Ent Tryz.prog ⟨[.v (.sl T119),.v (.sl T119)],[.bool],false⟩:=⟨30,l_frSnaps,fun ⟨a0,a1⟩ y hs h=>e30.ok _ y hs ((k30 a0 a1).trans h)⟩
noncomputable def e25:Ent Tryz.prog ⟨[.v T37,.v T37],[.bool],false⟩:=genE [⟨_,n29,none,none⟩,⟨_,n30,none,none⟩] 25 _ [.t 4] [⟨13,[(.normal,⟨[(2,.one (.vp 0 0)),(3,.one (.vp 1 0)),(71,.one .b)],[.pk false T37v,.pk false T37v],[]⟩,[])],[]⟩,⟨2,[(.normal,⟨[(2,.one (.vp 0 0)),(3,.one (.vp 1 0)),(5,.one (.i .i64))],[.pk false T37v,.pk false T37v],[]⟩,[]),(.ret,⟨[(4,.one .b)],[],[]⟩,[]),(.exit 0,⟨[],[],[]⟩,[])],[]⟩] [] [] mo Tryz.func25 rfl rfl (by kernel_rfl) (by kernel_rfl) (by kernel_rfl) rfl
theorem k25 (a0:Den T37) (a1:Den T37):e25.f (a0,a1)=l_frCkp (a0,a1):=by kernel_rfl
noncomputable def n25:Ent Tryz.prog ⟨[.v T37,.v T37],[.bool],false⟩:=⟨25,l_frCkp,fun ⟨a0,a1⟩ y hs h=>e25.ok _ y hs ((k25 a0 a1).trans h)⟩
noncomputable def e10076:Ent Tryz.prog ⟨[.w T37v],[.bool],false⟩:=genE [⟨_,n129,none,none⟩,⟨_,n130,none,none⟩] 76 _ [.t 2] [] [] [] mo Tryz.func76 rfl rfl (by kernel_rfl) (by kernel_rfl) (by kernel_rfl) rfl
theorem k10076 (a0:Den T37v):e10076.f (a0)=i_CkpState_ready_v (a0):=by kernel_rfl
noncomputable def n10076:Ent Tryz.prog ⟨[.w T37v],[.bool],false⟩:=⟨76,i_CkpState_ready_v,fun a0 y hs h=>e10076.ok _ y hs ((k10076 a0).trans h)⟩
noncomputable def e26:Ent Tryz.prog ⟨[.v T24,.v T37],[.bool],false⟩:=genE [⟨_,n10076,none,none⟩,⟨_,n31,none,none⟩] 26 _ [.t 4] [] [] [] mo Tryz.func26 rfl rfl (by kernel_rfl) (by kernel_rfl) (by kernel_rfl) rfl
theorem k26 (a0:Den T24) (a1:Den T37):e26.f (a0,a1)=i_CkpReady (a0,a1):=by kernel_rfl
noncomputable def n26:Ent Tryz.prog ⟨[.v T24,.v T37],[.bool],false⟩:=⟨26,i_CkpReady,fun ⟨a0,a1⟩ y hs h=>e26.ok _ y hs ((k26 a0 a1).trans h)⟩
noncomputable def e27:Ent Tryz.prog ⟨[.v T24,.v T37],[.bool],false⟩:=genE [⟨_,n28,none,none⟩,⟨_,n73,none,none⟩] 27 _ [.t 4] [] [] [] mo Tryz.func27 rfl rfl (by kernel_rfl) (by kernel_rfl) (by kernel_rfl) rfl
theorem k27 (a0:Den T24) (a1:Den T37):e27.f (a0,a1)=s_CkpReady (a0,a1):=by kernel_rfl
noncomputable def n27:Ent Tryz.prog ⟨[.v T24,.v T37],[.bool],false⟩:=⟨27,s_CkpReady,fun ⟨a0,a1⟩ y hs h=>e27.ok _ y hs ((k27 a0 a1).trans h)⟩
noncomputable def e11:Ent Tryz.prog ⟨[],[.bool],false⟩:=genE [⟨_,n56,none,none⟩] 11 _ [.t 0] [] [] [] mo Tryz.func11 rfl rfl (by kernel_rfl) (by kernel_rfl) (by kernel_rfl) rfl
theorem k11  : e11.f ()=l_frOk ():=by kernel_rfl
noncomputable def n11:Ent Tryz.prog ⟨[],[.bool],false⟩:=⟨11,l_frOk,fun x y hs h=>e11.ok x y hs ((k11).trans h)⟩
noncomputable def e5:Ent Tryz.prog ⟨[.v (.sl (.int .u8))],[.bool],false⟩:=genE [⟨_,n22,none,none⟩,⟨_,n23,none,none⟩,⟨_,n24,none,none⟩,⟨_,n25,none,none⟩,⟨_,n26,none,none⟩,⟨_,n27,none,none⟩,⟨_,n28,none,none⟩,⟨_,n11,none,none⟩,⟨_,n29,none,none⟩,⟨_,n30,none,none⟩,⟨_,n31,none,none⟩] 5 _ [.t 2] [⟨9,[(.normal,⟨[(3,.one (.vp 0 0)),(4,.one (.vp 1 0)),(5,.one (.vp 2 0)),(46,.one .b)],[.pk false T24,.pk false T37,.pk false T37],[]⟩,[])],[]⟩,⟨5,[(.normal,⟨[(2,.one .b)],[],[]⟩,[])],[]⟩,⟨2,[(.normal,⟨[(2,.one .b)],[],[]⟩,[])],[]⟩] [] [(9,[100004])] mo Tryz.func5 rfl rfl (by kernel_rfl) (by kernel_rfl) (by kernel_rfl) rfl
theorem k5 (a0:Den (.sl (.int .u8))):e5.f (a0)=l_FnCkpSave (a0):=by kernel_rfl
noncomputable def n5:Ent Tryz.prog ⟨[.v (.sl (.int .u8))],[.bool],false⟩:=⟨5,l_FnCkpSave,fun a0 y hs h=>e5.ok _ y hs ((k5 a0).trans h)⟩
end Go.Proofs.YtfhkpnnbklojoaaGreatA.AS
