/- A part of the proof that FnExactFloDone holds: that the functions of the program compute the plain ones. -/
import Derived.Test.YtjebjgahkakepaaGreatPu1
import Derived.Deep.LoopGhost
import Derived.Lib.SliceRun
import Derived.Lib.Walk
import Derived.Test.YtjebjgahkakepaaGreatProg
import Derived.WalkKit
set_option linter.unusedVariables false
set_option linter.unusedSimpArgs false
set_option maxRecDepth 100000
namespace Go.Proofs.YtjebjgahkakepaaGreatA.AS
open Go.Proofs Go.RowKit Go.Lib
theorem mo:Tryz.prog.follows .mixedOrders=true:=by kernel_rfl
abbrev i6:Ty:=.int .i64
abbrev T62:Ty:=(.pr i6 i6)
abbrev T162:Ty:=(.pr i6 (.pr i6 T62))
abbrev T152:Ty:=(.pr i6 T162)
abbrev T136:Ty:=(.pr (.sl T152) (.pr i6 .bool))
abbrev T193:Ty:=(.pr i6 (.pr T62 (.pr T162 (.pr T162 (.pr i6 .bool)))))
abbrev T82:Ty:=(.pr i6 (.sl T193))
abbrev T164:Ty:=(.pr i6 (.pr T62 (.pr i6 T152)))
abbrev T167:Ty:=(.pr T152 T62)
abbrev T86:Ty:=(.pr i6 (.pr (.sl T164) (.sl T167)))
abbrev T88:Ty:=(.pr (.sl T136) (.pr T82 (.pr i6 T86)))
abbrev T92:Ty:=(.pr (.sl T86) T86)
abbrev T134:Ty:=(.pr T82 (.sl i6))
abbrev T32:Ty:=(.pr i6 (.pr (.sl i6) (.sl T134)))
abbrev T34:Ty:=(.pr i6 (.pr .bool (.pr (.sl i6) (.pr (.sl .bool) (.pr (.sl T134) T32)))))
abbrev T23:Ty:=(.pr i6 (.pr i6 (.pr i6 (.pr i6 (.pr i6 (.pr i6 (.pr i6 (.pr .bool T62))))))))
abbrev T36:Ty:=(.pr T23 (.pr (.sl (.sl T152)) (.pr (.sl T62) (.pr (.sl T88) (.pr (.sl T92) T34)))))
abbrev T82v:Ty:=(.pr i6 (.vw T193))
abbrev T134v:Ty:=(.pr T82v (.vw i6))
abbrev T32v:Ty:=(.pr i6 (.pr (.vw i6) (.vw T134)))
abbrev T34v:Ty:=(.pr i6 (.pr .bool (.pr (.vw i6) (.pr (.vw .bool) (.pr (.vw T134) T32v)))))
abbrev T86v:Ty:=(.pr i6 (.pr (.vw T164) (.vw T167)))
abbrev T136v:Ty:=(.pr (.vw T152) (.pr i6 .bool))
abbrev T88v:Ty:=(.pr (.vw T136) (.pr T82v (.pr i6 T86v)))
abbrev T92s:Ty:=(.pr (.sl T86v) T86)
abbrev T92sv:Ty:=(.pr (.vw T86v) T86v)
abbrev T36s:Ty:=(.pr T23 (.pr (.sl (.sl T152)) (.pr (.sl T62) (.pr (.sl T88) (.pr (.sl T92s) T34)))))
abbrev T36sv:Ty:=(.pr T23 (.pr (.vw (.sl T152)) (.pr (.vw T62) (.pr (.vw T88) (.pr (.vw T92s) T34v)))))
abbrev T92v:Ty:=(.pr (.vw T86) T86v)
abbrev T36v:Ty:=(.pr T23 (.pr (.vw (.sl T152)) (.pr (.vw T62) (.pr (.vw T88) (.pr (.vw T92) T34v)))))
noncomputable def e33:Ent Tryz.prog ⟨[.v (.sl T152),.v i6],[i6],false⟩:=genE [] 33 _ [.t 4] [] [] [] mo Tryz.func33 rfl rfl (by kernel_rfl) (by kernel_rfl) (by kernel_rfl) rfl
theorem k33 (a0:Den (.sl T152)) (a1:Den i6):e33.f (a0,a1)=l_szItmItemS (a0,a1):=by kernel_rfl
noncomputable def n33:Ent Tryz.prog ⟨[.v (.sl T152),.v i6],[i6],false⟩:=⟨33,l_szItmItemS,fun ⟨a0,a1⟩ y hs h=>e33.ok _ y hs ((k33 a0 a1).trans h)⟩
noncomputable def e12:Ent Tryz.prog ⟨[.v (.sl (.sl T152)),.v i6],[i6],false⟩:=genE [⟨_,n33,none,none⟩] 12 _ [.t 4] [⟨2,[(.normal,⟨[(1,.one (.i .i64)),(5,.one (.i .i64))],[],[]⟩,[]),(.ret,⟨[(4,.one (.i .i64))],[],[]⟩,[]),(.exit 0,⟨[(1,.one (.i .i64))],[],[]⟩,[])],[]⟩] [] [] mo Tryz.func12 rfl rfl (by kernel_rfl) (by kernel_rfl) (by kernel_rfl) rfl
theorem k12 (a0:Den (.sl (.sl T152))) (a1:Den i6):e12.f (a0,a1)=l_szItmItemSS (a0,a1):=by kernel_rfl
noncomputable def n12:Ent Tryz.prog ⟨[.v (.sl (.sl T152)),.v i6],[i6],false⟩:=⟨12,l_szItmItemSS,fun ⟨a0,a1⟩ y hs h=>e12.ok _ y hs ((k12 a0 a1).trans h)⟩
noncomputable def e13:Ent Tryz.prog ⟨[.v (.sl T62),.v i6],[i6],false⟩:=genE [] 13 _ [.t 4] [] [] [] mo Tryz.func13 rfl rfl (by kernel_rfl) (by kernel_rfl) (by kernel_rfl) rfl
theorem k13 (a0:Den (.sl T62)) (a1:Den i6):e13.f (a0,a1)=l_szFloSrcS (a0,a1):=by kernel_rfl
noncomputable def n13:Ent Tryz.prog ⟨[.v (.sl T62),.v i6],[i6],false⟩:=⟨13,l_szFloSrcS,fun ⟨a0,a1⟩ y hs h=>e13.ok _ y hs ((k13 a0 a1).trans h)⟩
noncomputable def e118:Ent Tryz.prog ⟨[.v T136,.v i6],[i6],false⟩:=genE [⟨_,n33,none,none⟩] 118 _ [.t 4] [] [] [] mo Tryz.func118 rfl rfl (by kernel_rfl) (by kernel_rfl) (by kernel_rfl) rfl
theorem k118 (a0:Den T136) (a1:Den i6):e118.f (a0,a1)=l_szTskIn (a0,a1):=by kernel_rfl
noncomputable def n118:Ent Tryz.prog ⟨[.v T136,.v i6],[i6],false⟩:=⟨118,l_szTskIn,fun ⟨a0,a1⟩ y hs h=>e118.ok _ y hs ((k118 a0 a1).trans h)⟩
noncomputable def e70:Ent Tryz.prog ⟨[.v (.sl T136),.v i6],[i6],false⟩:=genE [⟨_,n118,none,none⟩] 70 _ [.t 4] [⟨2,[(.normal,⟨[(1,.one (.i .i64)),(5,.one (.i .i64))],[],[]⟩,[]),(.ret,⟨[(4,.one (.i .i64))],[],[]⟩,[]),(.exit 0,⟨[(1,.one (.i .i64))],[],[]⟩,[])],[]⟩] [] [] mo Tryz.func70 rfl rfl (by kernel_rfl) (by kernel_rfl) (by kernel_rfl) rfl
theorem k70 (a0:Den (.sl T136)) (a1:Den i6):e70.f (a0,a1)=l_szTskInS (a0,a1):=by kernel_rfl
noncomputable def n70:Ent Tryz.prog ⟨[.v (.sl T136),.v i6],[i6],false⟩:=⟨70,l_szTskInS,fun ⟨a0,a1⟩ y hs h=>e70.ok _ y hs ((k70 a0 a1).trans h)⟩
noncomputable def e119:Ent Tryz.prog ⟨[.v (.sl T193),.v i6],[i6],false⟩:=genE [] 119 _ [.t 4] [] [] [] mo Tryz.func119 rfl rfl (by kernel_rfl) (by kernel_rfl) (by kernel_rfl) rfl
theorem k119 (a0:Den (.sl T193)) (a1:Den i6):e119.f (a0,a1)=l_szOpRowS (a0,a1):=by kernel_rfl
noncomputable def n119:Ent Tryz.prog ⟨[.v (.sl T193),.v i6],[i6],false⟩:=⟨119,l_szOpRowS,fun ⟨a0,a1⟩ y hs h=>e119.ok _ y hs ((k119 a0 a1).trans h)⟩
noncomputable def e71:Ent Tryz.prog ⟨[.v T82,.v i6],[i6],false⟩:=genE [⟨_,n119,none,none⟩] 71 _ [.t 4] [] [] [] mo Tryz.func71 rfl rfl (by kernel_rfl) (by kernel_rfl) (by kernel_rfl) rfl
theorem k71 (a0:Den T82) (a1:Den i6):e71.f (a0,a1)=l_szOpState (a0,a1):=by kernel_rfl
noncomputable def n71:Ent Tryz.prog ⟨[.v T82,.v i6],[i6],false⟩:=⟨71,l_szOpState,fun ⟨a0,a1⟩ y hs h=>e71.ok _ y hs ((k71 a0 a1).trans h)⟩
noncomputable def e74:Ent Tryz.prog ⟨[.v (.sl T164),.v i6],[i6],false⟩:=genE [] 74 _ [.t 4] [] [] [] mo Tryz.func74 rfl rfl (by kernel_rfl) (by kernel_rfl) (by kernel_rfl) rfl
theorem k74 (a0:Den (.sl T164)) (a1:Den i6):e74.f (a0,a1)=l_szPanPaneS (a0,a1):=by kernel_rfl
noncomputable def n74:Ent Tryz.prog ⟨[.v (.sl T164),.v i6],[i6],false⟩:=⟨74,l_szPanPaneS,fun ⟨a0,a1⟩ y hs h=>e74.ok _ y hs ((k74 a0 a1).trans h)⟩
noncomputable def e75:Ent Tryz.prog ⟨[.v (.sl T167),.v i6],[i6],false⟩:=genE [] 75 _ [.t 4] [] [] [] mo Tryz.func75 rfl rfl (by kernel_rfl) (by kernel_rfl) (by kernel_rfl) rfl
theorem k75 (a0:Den (.sl T167)) (a1:Den i6):e75.f (a0,a1)=l_szLatPairS (a0,a1):=by kernel_rfl
noncomputable def n75:Ent Tryz.prog ⟨[.v (.sl T167),.v i6],[i6],false⟩:=⟨75,l_szLatPairS,fun ⟨a0,a1⟩ y hs h=>e75.ok _ y hs ((k75 a0 a1).trans h)⟩
noncomputable def e72:Ent Tryz.prog ⟨[.v T86,.v i6],[i6],false⟩:=genE [⟨_,n74,none,none⟩,⟨_,n75,none,none⟩] 72 _ [.t 4] [] [] [] mo Tryz.func72 rfl rfl (by kernel_rfl) (by kernel_rfl) (by kernel_rfl) rfl
theorem k72 (a0:Den T86) (a1:Den i6):e72.f (a0,a1)=l_szTskTxn (a0,a1):=by kernel_rfl
noncomputable def n72:Ent Tryz.prog ⟨[.v T86,.v i6],[i6],false⟩:=⟨72,l_szTskTxn,fun ⟨a0,a1⟩ y hs h=>e72.ok _ y hs ((k72 a0 a1).trans h)⟩
noncomputable def e34:Ent Tryz.prog ⟨[.v T88,.v i6],[i6],false⟩:=genE [⟨_,n70,none,none⟩,⟨_,n71,none,none⟩,⟨_,n72,none,none⟩] 34 _ [.t 4] [] [] [] mo Tryz.func34 rfl rfl (by kernel_rfl) (by kernel_rfl) (by kernel_rfl) rfl
theorem k34 (a0:Den T88) (a1:Den i6):e34.f (a0,a1)=l_szTskTask (a0,a1):=by kernel_rfl
noncomputable def n34:Ent Tryz.prog ⟨[.v T88,.v i6],[i6],false⟩:=⟨34,l_szTskTask,fun ⟨a0,a1⟩ y hs h=>e34.ok _ y hs ((k34 a0 a1).trans h)⟩
noncomputable def e14:Ent Tryz.prog ⟨[.v (.sl T88),.v i6],[i6],false⟩:=genE [⟨_,n34,none,none⟩] 14 _ [.t 4] [⟨2,[(.normal,⟨[(1,.one (.i .i64)),(5,.one (.i .i64))],[],[]⟩,[]),(.ret,⟨[(4,.one (.i .i64))],[],[]⟩,[]),(.exit 0,⟨[(1,.one (.i .i64))],[],[]⟩,[])],[]⟩] [] [] mo Tryz.func14 rfl rfl (by kernel_rfl) (by kernel_rfl) (by kernel_rfl) rfl
theorem k14 (a0:Den (.sl T88)) (a1:Den i6):e14.f (a0,a1)=l_szTskTaskS (a0,a1):=by kernel_rfl
noncomputable def n14:Ent Tryz.prog ⟨[.v (.sl T88),.v i6],[i6],false⟩:=⟨14,l_szTskTaskS,fun ⟨a0,a1⟩ y hs h=>e14.ok _ y hs ((k14 a0 a1).trans h)⟩
noncomputable def e73:Ent Tryz.prog ⟨[.v (.sl T86),.v i6],[i6],false⟩:=genE [⟨_,n72,none,none⟩] 73 _ [.t 4] [⟨2,[(.normal,⟨[(1,.one (.i .i64)),(5,.one (.i .i64))],[],[]⟩,[]),(.ret,⟨[(4,.one (.i .i64))],[],[]⟩,[]),(.exit 0,⟨[(1,.one (.i .i64))],[],[]⟩,[])],[]⟩] [] [] mo Tryz.func73 rfl rfl (by kernel_rfl) (by kernel_rfl) (by kernel_rfl) rfl
theorem k73 (a0:Den (.sl T86)) (a1:Den i6):e73.f (a0,a1)=l_szTskTxnS (a0,a1):=by kernel_rfl
noncomputable def n73:Ent Tryz.prog ⟨[.v (.sl T86),.v i6],[i6],false⟩:=⟨73,l_szTskTxnS,fun ⟨a0,a1⟩ y hs h=>e73.ok _ y hs ((k73 a0 a1).trans h)⟩
noncomputable def e35:Ent Tryz.prog ⟨[.v T92,.v i6],[i6],false⟩:=genE [⟨_,n73,none,none⟩,⟨_,n74,none,none⟩,⟨_,n75,none,none⟩] 35 _ [.t 4] [] [] [] mo Tryz.func35 rfl rfl (by kernel_rfl) (by kernel_rfl) (by kernel_rfl) rfl
theorem k35 (a0:Den T92) (a1:Den i6):e35.f (a0,a1)=l_szFloSink (a0,a1):=by kernel_rfl
noncomputable def n35:Ent Tryz.prog ⟨[.v T92,.v i6],[i6],false⟩:=⟨35,l_szFloSink,fun ⟨a0,a1⟩ y hs h=>e35.ok _ y hs ((k35 a0 a1).trans h)⟩
noncomputable def e15:Ent Tryz.prog ⟨[.v (.sl T92),.v i6],[i6],false⟩:=genE [⟨_,n35,none,none⟩] 15 _ [.t 4] [⟨2,[(.normal,⟨[(1,.one (.i .i64)),(5,.one (.i .i64))],[],[]⟩,[]),(.ret,⟨[(4,.one (.i .i64))],[],[]⟩,[]),(.exit 0,⟨[(1,.one (.i .i64))],[],[]⟩,[])],[]⟩] [] [] mo Tryz.func15 rfl rfl (by kernel_rfl) (by kernel_rfl) (by kernel_rfl) rfl
theorem k15 (a0:Den (.sl T92)) (a1:Den i6):e15.f (a0,a1)=l_szFloSinkS (a0,a1):=by kernel_rfl
noncomputable def n15:Ent Tryz.prog ⟨[.v (.sl T92),.v i6],[i6],false⟩:=⟨15,l_szFloSinkS,fun ⟨a0,a1⟩ y hs h=>e15.ok _ y hs ((k15 a0 a1).trans h)⟩
noncomputable def e36:Ent Tryz.prog ⟨[.v (.sl i6),.v i6],[i6],false⟩:=genE [] 36 _ [.t 4] [] [] [] mo Tryz.func36 rfl rfl (by kernel_rfl) (by kernel_rfl) (by kernel_rfl) rfl
theorem k36 (a0:Den (.sl i6)) (a1:Den i6):e36.f (a0,a1)=l_szIntS (a0,a1):=by kernel_rfl
noncomputable def n36:Ent Tryz.prog ⟨[.v (.sl i6),.v i6],[i6],false⟩:=⟨36,l_szIntS,fun ⟨a0,a1⟩ y hs h=>e36.ok _ y hs ((k36 a0 a1).trans h)⟩
noncomputable def e37:Ent Tryz.prog ⟨[.v (.sl .bool),.v i6],[i6],false⟩:=genE [] 37 _ [.t 4] [] [] [] mo Tryz.func37 rfl rfl (by kernel_rfl) (by kernel_rfl) (by kernel_rfl) rfl
theorem k37 (a0:Den (.sl .bool)) (a1:Den i6):e37.f (a0,a1)=l_szBoolS (a0,a1):=by kernel_rfl
noncomputable def n37:Ent Tryz.prog ⟨[.v (.sl .bool),.v i6],[i6],false⟩:=⟨37,l_szBoolS,fun ⟨a0,a1⟩ y hs h=>e37.ok _ y hs ((k37 a0 a1).trans h)⟩
noncomputable def e76:Ent Tryz.prog ⟨[.v T134,.v i6],[i6],false⟩:=genE [⟨_,n71,none,none⟩,⟨_,n36,none,none⟩] 76 _ [.t 4] [] [] [] mo Tryz.func76 rfl rfl (by kernel_rfl) (by kernel_rfl) (by kernel_rfl) rfl
theorem k76 (a0:Den T134) (a1:Den i6):e76.f (a0,a1)=l_szCkpSnap (a0,a1):=by kernel_rfl
noncomputable def n76:Ent Tryz.prog ⟨[.v T134,.v i6],[i6],false⟩:=⟨76,l_szCkpSnap,fun ⟨a0,a1⟩ y hs h=>e76.ok _ y hs ((k76 a0 a1).trans h)⟩
noncomputable def e38:Ent Tryz.prog ⟨[.v (.sl T134),.v i6],[i6],false⟩:=genE [⟨_,n76,none,none⟩] 38 _ [.t 4] [⟨2,[(.normal,⟨[(1,.one (.i .i64)),(5,.one (.i .i64))],[],[]⟩,[]),(.ret,⟨[(4,.one (.i .i64))],[],[]⟩,[]),(.exit 0,⟨[(1,.one (.i .i64))],[],[]⟩,[])],[]⟩] [] [] mo Tryz.func38 rfl rfl (by kernel_rfl) (by kernel_rfl) (by kernel_rfl) rfl
theorem k38 (a0:Den (.sl T134)) (a1:Den i6):e38.f (a0,a1)=l_szCkpSnapS (a0,a1):=by kernel_rfl
noncomputable def n38:Ent Tryz.prog ⟨[.v (.sl T134),.v i6],[i6],false⟩:=⟨38,l_szCkpSnapS,fun ⟨a0,a1⟩ y hs h=>e38.ok _ y hs ((k38 a0 a1).trans h)⟩
noncomputable def e39:Ent Tryz.prog ⟨[.v T32,.v i6],[i6],false⟩:=genE [⟨_,n36,none,none⟩,⟨_,n38,none,none⟩] 39 _ [.t 4] [] [] [] mo Tryz.func39 rfl rfl (by kernel_rfl) (by kernel_rfl) (by kernel_rfl) rfl
theorem k39 (a0:Den T32) (a1:Den i6):e39.f (a0,a1)=l_szCkpSafe (a0,a1):=by kernel_rfl
noncomputable def n39:Ent Tryz.prog ⟨[.v T32,.v i6],[i6],false⟩:=⟨39,l_szCkpSafe,fun ⟨a0,a1⟩ y hs h=>e39.ok _ y hs ((k39 a0 a1).trans h)⟩
noncomputable def e16:Ent Tryz.prog ⟨[.v T34,.v i6],[i6],false⟩:=genE [⟨_,n36,none,none⟩,⟨_,n37,none,none⟩,⟨_,n38,none,none⟩,⟨_,n39,none,none⟩] 16 _ [.t 4] [] [] [] mo Tryz.func16 rfl rfl (by kernel_rfl) (by kernel_rfl) (by kernel_rfl) rfl
theorem k16 (a0:Den T34) (a1:Den i6):e16.f (a0,a1)=l_szCkpState (a0,a1):=by kernel_rfl
noncomputable def n16:Ent Tryz.prog ⟨[.v T34,.v i6],[i6],false⟩:=⟨16,l_szCkpState,fun ⟨a0,a1⟩ y hs h=>e16.ok _ y hs ((k16 a0 a1).trans h)⟩
noncomputable def e5:Ent Tryz.prog ⟨[.v T36,.v i6],[i6],false⟩:=genE [⟨_,n12,none,none⟩,⟨_,n13,none,none⟩,⟨_,n14,none,none⟩,⟨_,n15,none,none⟩,⟨_,n16,none,none⟩] 5 _ [.t 4] [] [] [] mo Tryz.func5 rfl rfl (by kernel_rfl) (by kernel_rfl) (by kernel_rfl) rfl
theorem k5 (a0:Den T36) (a1:Den i6):e5.f (a0,a1)=l_szFloFlow (a0,a1):=by kernel_rfl
noncomputable def n5:Ent Tryz.prog ⟨[.v T36,.v i6],[i6],false⟩:=⟨5,l_szFloFlow,fun ⟨a0,a1⟩ y hs h=>e5.ok _ y hs ((k5 a0 a1).trans h)⟩
noncomputable def e18:Ent Tryz.prog ⟨[.v T23],[T23],false⟩:=genE [] 18 _ [.c 2 (some 10)] [] [] [] mo Tryz.func18 rfl rfl (by kernel_rfl) (by kernel_rfl) (by kernel_rfl) rfl
theorem k18 (a0:Den T23):e18.f (a0)=l_toJobJob (a0):=by kernel_rfl
noncomputable def n18:Ent Tryz.prog ⟨[.v T23],[T23],false⟩:=⟨18,l_toJobJob,fun a0 y hs h=>e18.ok _ y hs ((k18 a0).trans h)⟩
noncomputable def e88:Ent Tryz.prog ⟨[.v T152],[T152],false⟩:=genE [] 88 _ [.c 2 (some 5)] [] [] [] mo Tryz.func88 rfl rfl (by kernel_rfl) (by kernel_rfl) (by kernel_rfl) rfl
theorem k88 (a0:Den T152):e88.f (a0)=l_toItmItem (a0):=by kernel_rfl
noncomputable def n88:Ent Tryz.prog ⟨[.v T152],[T152],false⟩:=⟨88,l_toItmItem,fun a0 y hs h=>e88.ok _ y hs ((k88 a0).trans h)⟩
noncomputable def e45:Ent Tryz.prog ⟨[.v (.sl T152)],[(.sl T152)],false⟩:=genE [⟨_,n88,none,none⟩] 45 _ [.t 2] [⟨2,[(.normal,⟨[(3,.one (.ref 0)),(4,.one (.i .i64))],[.sl T152],[]⟩,[]),(.exit 0,⟨[(3,.one (.ref 0))],[.sl T152],[]⟩,[])],[]⟩] [T152] [] mo Tryz.func45 rfl rfl (by kernel_rfl) (by kernel_rfl) (by kernel_rfl) rfl
theorem k45 (a0:Den (.sl T152)):e45.f (a0)=l_toItmItemS (a0):=by kernel_rfl
noncomputable def n45:Ent Tryz.prog ⟨[.v (.sl T152)],[(.sl T152)],false⟩:=⟨45,l_toItmItemS,fun a0 y hs h=>e45.ok _ y hs ((k45 a0).trans h)⟩
noncomputable def e19:Ent Tryz.prog ⟨[.v (.sl (.sl T152))],[(.sl (.sl T152))],false⟩:=genE [⟨_,n45,none,none⟩] 19 _ [.t 2] [⟨2,[(.normal,⟨[(3,.one (.ref 0)),(4,.one (.i .i64))],[.sl (.sl T152)],[]⟩,[]),(.exit 0,⟨[(3,.one (.ref 0))],[.sl (.sl T152)],[]⟩,[])],[]⟩] [(.sl T152)] [] mo Tryz.func19 rfl rfl (by kernel_rfl) (by kernel_rfl) (by kernel_rfl) rfl
theorem k19 (a0:Den (.sl (.sl T152))):e19.f (a0)=l_toItmItemSS (a0):=by kernel_rfl
noncomputable def n19:Ent Tryz.prog ⟨[.v (.sl (.sl T152))],[(.sl (.sl T152))],false⟩:=⟨19,l_toItmItemSS,fun a0 y hs h=>e19.ok _ y hs ((k19 a0).trans h)⟩
noncomputable def e46:Ent Tryz.prog ⟨[.v T62],[T62],false⟩:=genE [] 46 _ [.c 2 (some 2)] [] [] [] mo Tryz.func46 rfl rfl (by kernel_rfl) (by kernel_rfl) (by kernel_rfl) rfl
theorem k46 (a0:Den T62):e46.f (a0)=l_toFloSrc (a0):=by kernel_rfl
noncomputable def n46:Ent Tryz.prog ⟨[.v T62],[T62],false⟩:=⟨46,l_toFloSrc,fun a0 y hs h=>e46.ok _ y hs ((k46 a0).trans h)⟩
noncomputable def e20:Ent Tryz.prog ⟨[.v (.sl T62)],[(.sl T62)],false⟩:=genE [⟨_,n46,none,none⟩] 20 _ [.t 2] [⟨2,[(.normal,⟨[(3,.one (.ref 0)),(4,.one (.i .i64))],[.sl T62],[]⟩,[]),(.exit 0,⟨[(3,.one (.ref 0))],[.sl T62],[]⟩,[])],[]⟩] [T62] [] mo Tryz.func20 rfl rfl (by kernel_rfl) (by kernel_rfl) (by kernel_rfl) rfl
theorem k20 (a0:Den (.sl T62)):e20.f (a0)=l_toFloSrcS (a0):=by kernel_rfl
noncomputable def n20:Ent Tryz.prog ⟨[.v (.sl T62)],[(.sl T62)],false⟩:=⟨20,l_toFloSrcS,fun a0 y hs h=>e20.ok _ y hs ((k20 a0).trans h)⟩
noncomputable def e125:Ent Tryz.prog ⟨[.v T136],[T136],false⟩:=genE [⟨_,n45,none,none⟩] 125 _ [.c 2 (some 3)] [] [] [] mo Tryz.func125 rfl rfl (by kernel_rfl) (by kernel_rfl) (by kernel_rfl) rfl
theorem k125 (a0:Den T136):e125.f (a0)=l_toTskIn (a0):=by kernel_rfl
noncomputable def n125:Ent Tryz.prog ⟨[.v T136],[T136],false⟩:=⟨125,l_toTskIn,fun a0 y hs h=>e125.ok _ y hs ((k125 a0).trans h)⟩
noncomputable def e89:Ent Tryz.prog ⟨[.v (.sl T136)],[(.sl T136)],false⟩:=genE [⟨_,n125,none,none⟩] 89 _ [.t 2] [⟨2,[(.normal,⟨[(3,.one (.ref 0)),(4,.one (.i .i64))],[.sl T136],[]⟩,[]),(.exit 0,⟨[(3,.one (.ref 0))],[.sl T136],[]⟩,[])],[]⟩] [T136] [] mo Tryz.func89 rfl rfl (by kernel_rfl) (by kernel_rfl) (by kernel_rfl) rfl
theorem k89 (a0:Den (.sl T136)):e89.f (a0)=l_toTskInS (a0):=by kernel_rfl
noncomputable def n89:Ent Tryz.prog ⟨[.v (.sl T136)],[(.sl T136)],false⟩:=⟨89,l_toTskInS,fun a0 y hs h=>e89.ok _ y hs ((k89 a0).trans h)⟩
noncomputable def e157:Ent Tryz.prog ⟨[.v T62],[T62],false⟩:=genE [] 157 _ [.c 2 (some 2)] [] [] [] mo Tryz.func157 rfl rfl (by kernel_rfl) (by kernel_rfl) (by kernel_rfl) rfl
theorem k157 (a0:Den T62):e157.f (a0)=l_toWinWin (a0):=by kernel_rfl
noncomputable def n157:Ent Tryz.prog ⟨[.v T62],[T62],false⟩:=⟨157,l_toWinWin,fun a0 y hs h=>e157.ok _ y hs ((k157 a0).trans h)⟩
noncomputable def e158:Ent Tryz.prog ⟨[.v T162],[T162],false⟩:=genE [] 158 _ [.c 2 (some 4)] [] [] [] mo Tryz.func158 rfl rfl (by kernel_rfl) (by kernel_rfl) (by kernel_rfl) rfl
theorem k158 (a0:Den T162):e158.f (a0)=l_toAggAgg (a0):=by kernel_rfl
noncomputable def n158:Ent Tryz.prog ⟨[.v T162],[T162],false⟩:=⟨158,l_toAggAgg,fun a0 y hs h=>e158.ok _ y hs ((k158 a0).trans h)⟩
noncomputable def e156:Ent Tryz.prog ⟨[.v T193],[T193],false⟩:=genE [⟨_,n157,none,none⟩,⟨_,n158,none,none⟩] 156 _ [.c 2 (some 13)] [] [] [] mo Tryz.func156 rfl rfl (by kernel_rfl) (by kernel_rfl) (by kernel_rfl) rfl
theorem k156 (a0:Den T193):e156.f (a0)=l_toOpRow (a0):=by kernel_rfl
noncomputable def n156:Ent Tryz.prog ⟨[.v T193],[T193],false⟩:=⟨156,l_toOpRow,fun a0 y hs h=>e156.ok _ y hs ((k156 a0).trans h)⟩
noncomputable def e126:Ent Tryz.prog ⟨[.v (.sl T193)],[(.sl T193)],false⟩:=genE [⟨_,n156,none,none⟩] 126 _ [.t 2] [⟨2,[(.normal,⟨[(3,.one (.ref 0)),(4,.one (.i .i64))],[.sl T193],[]⟩,[]),(.exit 0,⟨[(3,.one (.ref 0))],[.sl T193],[]⟩,[])],[]⟩] [T193] [] mo Tryz.func126 rfl rfl (by kernel_rfl) (by kernel_rfl) (by kernel_rfl) rfl
theorem k126 (a0:Den (.sl T193)):e126.f (a0)=l_toOpRowS (a0):=by kernel_rfl
noncomputable def n126:Ent Tryz.prog ⟨[.v (.sl T193)],[(.sl T193)],false⟩:=⟨126,l_toOpRowS,fun a0 y hs h=>e126.ok _ y hs ((k126 a0).trans h)⟩
noncomputable def e90:Ent Tryz.prog ⟨[.v T82],[T82],false⟩:=genE [⟨_,n126,none,none⟩] 90 _ [.c 2 (some 2)] [] [] [] mo Tryz.func90 rfl rfl (by kernel_rfl) (by kernel_rfl) (by kernel_rfl) rfl
theorem k90 (a0:Den T82):e90.f (a0)=l_toOpState (a0):=by kernel_rfl
noncomputable def n90:Ent Tryz.prog ⟨[.v T82],[T82],false⟩:=⟨90,l_toOpState,fun a0 y hs h=>e90.ok _ y hs ((k90 a0).trans h)⟩
noncomputable def e127:Ent Tryz.prog ⟨[.v T164],[T164],false⟩:=genE [⟨_,n157,none,none⟩,⟨_,n158,none,none⟩] 127 _ [.c 2 (some 9)] [] [] [] mo Tryz.func127 rfl rfl (by kernel_rfl) (by kernel_rfl) (by kernel_rfl) rfl
theorem k127 (a0:Den T164):e127.f (a0)=l_toPanPane (a0):=by kernel_rfl
noncomputable def n127:Ent Tryz.prog ⟨[.v T164],[T164],false⟩:=⟨127,l_toPanPane,fun a0 y hs h=>e127.ok _ y hs ((k127 a0).trans h)⟩
noncomputable def e93:Ent Tryz.prog ⟨[.v (.sl T164)],[(.sl T164)],false⟩:=genE [⟨_,n127,none,none⟩] 93 _ [.t 2] [⟨2,[(.normal,⟨[(3,.one (.ref 0)),(4,.one (.i .i64))],[.sl T164],[]⟩,[]),(.exit 0,⟨[(3,.one (.ref 0))],[.sl T164],[]⟩,[])],[]⟩] [T164] [] mo Tryz.func93 rfl rfl (by kernel_rfl) (by kernel_rfl) (by kernel_rfl) rfl
theorem k93 (a0:Den (.sl T164)):e93.f (a0)=l_toPanPaneS (a0):=by kernel_rfl
noncomputable def n93:Ent Tryz.prog ⟨[.v (.sl T164)],[(.sl T164)],false⟩:=⟨93,l_toPanPaneS,fun a0 y hs h=>e93.ok _ y hs ((k93 a0).trans h)⟩
noncomputable def e128:Ent Tryz.prog ⟨[.v T167],[T167],false⟩:=genE [⟨_,n88,none,none⟩,⟨_,n157,none,none⟩] 128 _ [.c 2 (some 7)] [] [] [] mo Tryz.func128 rfl rfl (by kernel_rfl) (by kernel_rfl) (by kernel_rfl) rfl
theorem k128 (a0:Den T167):e128.f (a0)=l_toLatPair (a0):=by kernel_rfl
noncomputable def n128:Ent Tryz.prog ⟨[.v T167],[T167],false⟩:=⟨128,l_toLatPair,fun a0 y hs h=>e128.ok _ y hs ((k128 a0).trans h)⟩
noncomputable def e94:Ent Tryz.prog ⟨[.v (.sl T167)],[(.sl T167)],false⟩:=genE [⟨_,n128,none,none⟩] 94 _ [.t 2] [⟨2,[(.normal,⟨[(3,.one (.ref 0)),(4,.one (.i .i64))],[.sl T167],[]⟩,[]),(.exit 0,⟨[(3,.one (.ref 0))],[.sl T167],[]⟩,[])],[]⟩] [T167] [] mo Tryz.func94 rfl rfl (by kernel_rfl) (by kernel_rfl) (by kernel_rfl) rfl
theorem k94 (a0:Den (.sl T167)):e94.f (a0)=l_toLatPairS (a0):=by kernel_rfl
noncomputable def n94:Ent Tryz.prog ⟨[.v (.sl T167)],[(.sl T167)],false⟩:=⟨94,l_toLatPairS,fun a0 y hs h=>e94.ok _ y hs ((k94 a0).trans h)⟩
noncomputable def e91:Ent Tryz.prog ⟨[.v T86],[T86],false⟩:=genE [⟨_,n93,none,none⟩,⟨_,n94,none,none⟩] 91 _ [.c 2 (some 3)] [] [] [] mo Tryz.func91 rfl rfl (by kernel_rfl) (by kernel_rfl) (by kernel_rfl) rfl
theorem k91 (a0:Den T86):e91.f (a0)=l_toTskTxn (a0):=by kernel_rfl
noncomputable def n91:Ent Tryz.prog ⟨[.v T86],[T86],false⟩:=⟨91,l_toTskTxn,fun a0 y hs h=>e91.ok _ y hs ((k91 a0).trans h)⟩
noncomputable def e47:Ent Tryz.prog ⟨[.v T88],[T88],false⟩:=genE [⟨_,n89,none,none⟩,⟨_,n90,none,none⟩,⟨_,n91,none,none⟩] 47 _ [.c 2 (some 7)] [] [] [] mo Tryz.func47 rfl rfl (by kernel_rfl) (by kernel_rfl) (by kernel_rfl) rfl
theorem k47 (a0:Den T88):e47.f (a0)=l_toTskTask (a0):=by kernel_rfl
noncomputable def n47:Ent Tryz.prog ⟨[.v T88],[T88],false⟩:=⟨47,l_toTskTask,fun a0 y hs h=>e47.ok _ y hs ((k47 a0).trans h)⟩
noncomputable def e21:Ent Tryz.prog ⟨[.v (.sl T88)],[(.sl T88)],false⟩:=genE [⟨_,n47,none,none⟩] 21 _ [.t 2] [⟨2,[(.normal,⟨[(3,.one (.ref 0)),(4,.one (.i .i64))],[.sl T88],[]⟩,[]),(.exit 0,⟨[(3,.one (.ref 0))],[.sl T88],[]⟩,[])],[]⟩] [T88] [] mo Tryz.func21 rfl rfl (by kernel_rfl) (by kernel_rfl) (by kernel_rfl) rfl
theorem k21 (a0:Den (.sl T88)):e21.f (a0)=l_toTskTaskS (a0):=by kernel_rfl
noncomputable def n21:Ent Tryz.prog ⟨[.v (.sl T88)],[(.sl T88)],false⟩:=⟨21,l_toTskTaskS,fun a0 y hs h=>e21.ok _ y hs ((k21 a0).trans h)⟩
noncomputable def e92:Ent Tryz.prog ⟨[.v (.sl T86)],[(.sl T86)],false⟩:=genE [⟨_,n91,none,none⟩] 92 _ [.t 2] [⟨2,[(.normal,⟨[(3,.one (.ref 0)),(4,.one (.i .i64))],[.sl T86],[]⟩,[]),(.exit 0,⟨[(3,.one (.ref 0))],[.sl T86],[]⟩,[])],[]⟩] [T86] [] mo Tryz.func92 rfl rfl (by kernel_rfl) (by kernel_rfl) (by kernel_rfl) rfl
theorem k92 (a0:Den (.sl T86)):e92.f (a0)=l_toTskTxnS (a0):=by kernel_rfl
noncomputable def n92:Ent Tryz.prog ⟨[.v (.sl T86)],[(.sl T86)],false⟩:=⟨92,l_toTskTxnS,fun a0 y hs h=>e92.ok _ y hs ((k92 a0).trans h)⟩
noncomputable def e48:Ent Tryz.prog ⟨[.v T92],[T92],false⟩:=genE [⟨_,n92,none,none⟩,⟨_,n93,none,none⟩,⟨_,n94,none,none⟩] 48 _ [.c 2 (some 4)] [] [] [] mo Tryz.func48 rfl rfl (by kernel_rfl) (by kernel_rfl) (by kernel_rfl) rfl
theorem k48 (a0:Den T92):e48.f (a0)=l_toFloSink (a0):=by kernel_rfl
noncomputable def n48:Ent Tryz.prog ⟨[.v T92],[T92],false⟩:=⟨48,l_toFloSink,fun a0 y hs h=>e48.ok _ y hs ((k48 a0).trans h)⟩
noncomputable def e22:Ent Tryz.prog ⟨[.v (.sl T92)],[(.sl T92)],false⟩:=genE [⟨_,n48,none,none⟩] 22 _ [.t 2] [⟨2,[(.normal,⟨[(3,.one (.ref 0)),(4,.one (.i .i64))],[.sl T92],[]⟩,[]),(.exit 0,⟨[(3,.one (.ref 0))],[.sl T92],[]⟩,[])],[]⟩] [T92] [] mo Tryz.func22 rfl rfl (by kernel_rfl) (by kernel_rfl) (by kernel_rfl) rfl
theorem k22 (a0:Den (.sl T92)):e22.f (a0)=l_toFloSinkS (a0):=by kernel_rfl
noncomputable def n22:Ent Tryz.prog ⟨[.v (.sl T92)],[(.sl T92)],false⟩:=⟨22,l_toFloSinkS,fun a0 y hs h=>e22.ok _ y hs ((k22 a0).trans h)⟩
noncomputable def e49:Ent Tryz.prog ⟨[.v (.sl i6)],[(.sl i6)],false⟩:=genE [] 49 _ [.t 2] [⟨2,[(.normal,⟨[(3,.one (.ref 0)),(4,.one (.i .i64))],[.sl i6],[]⟩,[]),(.exit 0,⟨[(3,.one (.ref 0))],[.sl i6],[]⟩,[])],[]⟩] [i6] [] mo Tryz.func49 rfl rfl (by kernel_rfl) (by kernel_rfl) (by kernel_rfl) rfl
theorem k49 (a0:Den (.sl i6)):e49.f (a0)=l_toIntS (a0):=by kernel_rfl
noncomputable def n49:Ent Tryz.prog ⟨[.v (.sl i6)],[(.sl i6)],false⟩:=⟨49,l_toIntS,fun a0 y hs h=>e49.ok _ y hs ((k49 a0).trans h)⟩
noncomputable def e50:Ent Tryz.prog ⟨[.v (.sl .bool)],[(.sl .bool)],false⟩:=genE [] 50 _ [.t 2] [⟨2,[(.normal,⟨[(3,.one (.ref 0)),(4,.one (.i .i64))],[.sl .bool],[]⟩,[]),(.exit 0,⟨[(3,.one (.ref 0))],[.sl .bool],[]⟩,[])],[]⟩] [.bool] [] mo Tryz.func50 rfl rfl (by kernel_rfl) (by kernel_rfl) (by kernel_rfl) rfl
theorem k50 (a0:Den (.sl .bool)):e50.f (a0)=l_toBoolS (a0):=by kernel_rfl
noncomputable def n50:Ent Tryz.prog ⟨[.v (.sl .bool)],[(.sl .bool)],false⟩:=⟨50,l_toBoolS,fun a0 y hs h=>e50.ok _ y hs ((k50 a0).trans h)⟩
noncomputable def e95:Ent Tryz.prog ⟨[.v T134],[T134],false⟩:=genE [⟨_,n90,none,none⟩,⟨_,n49,none,none⟩] 95 _ [.c 2 (some 3)] [] [] [] mo Tryz.func95 rfl rfl (by kernel_rfl) (by kernel_rfl) (by kernel_rfl) rfl
theorem k95 (a0:Den T134):e95.f (a0)=l_toCkpSnap (a0):=by kernel_rfl
noncomputable def n95:Ent Tryz.prog ⟨[.v T134],[T134],false⟩:=⟨95,l_toCkpSnap,fun a0 y hs h=>e95.ok _ y hs ((k95 a0).trans h)⟩
noncomputable def e51:Ent Tryz.prog ⟨[.v (.sl T134)],[(.sl T134)],false⟩:=genE [⟨_,n95,none,none⟩] 51 _ [.t 2] [⟨2,[(.normal,⟨[(3,.one (.ref 0)),(4,.one (.i .i64))],[.sl T134],[]⟩,[]),(.exit 0,⟨[(3,.one (.ref 0))],[.sl T134],[]⟩,[])],[]⟩] [T134] [] mo Tryz.func51 rfl rfl (by kernel_rfl) (by kernel_rfl) (by kernel_rfl) rfl
theorem k51 (a0:Den (.sl T134)):e51.f (a0)=l_toCkpSnapS (a0):=by kernel_rfl
noncomputable def n51:Ent Tryz.prog ⟨[.v (.sl T134)],[(.sl T134)],false⟩:=⟨51,l_toCkpSnapS,fun a0 y hs h=>e51.ok _ y hs ((k51 a0).trans h)⟩
noncomputable def e52:Ent Tryz.prog ⟨[.v T32],[T32],false⟩:=genE [⟨_,n49,none,none⟩,⟨_,n51,none,none⟩] 52 _ [.c 2 (some 3)] [] [] [] mo Tryz.func52 rfl rfl (by kernel_rfl) (by kernel_rfl) (by kernel_rfl) rfl
theorem k52 (a0:Den T32):e52.f (a0)=l_toCkpSafe (a0):=by kernel_rfl
noncomputable def n52:Ent Tryz.prog ⟨[.v T32],[T32],false⟩:=⟨52,l_toCkpSafe,fun a0 y hs h=>e52.ok _ y hs ((k52 a0).trans h)⟩
noncomputable def e23:Ent Tryz.prog ⟨[.v T34],[T34],false⟩:=genE [⟨_,n49,none,none⟩,⟨_,n50,none,none⟩,⟨_,n51,none,none⟩,⟨_,n52,none,none⟩] 23 _ [.c 2 (some 8)] [] [] [] mo Tryz.func23 rfl rfl (by kernel_rfl) (by kernel_rfl) (by kernel_rfl) rfl
theorem k23 (a0:Den T34):e23.f (a0)=l_toCkpState (a0):=by kernel_rfl
noncomputable def n23:Ent Tryz.prog ⟨[.v T34],[T34],false⟩:=⟨23,l_toCkpState,fun a0 y hs h=>e23.ok _ y hs ((k23 a0).trans h)⟩
noncomputable def e7:Ent Tryz.prog ⟨[.v T36],[T36],false⟩:=genE [⟨_,n18,none,none⟩,⟨_,n19,none,none⟩,⟨_,n20,none,none⟩,⟨_,n21,none,none⟩,⟨_,n22,none,none⟩,⟨_,n23,none,none⟩] 7 _ [.c 2 (some 22)] [] [] [] mo Tryz.func7 rfl rfl (by kernel_rfl) (by kernel_rfl) (by kernel_rfl) rfl
theorem k7 (a0:Den T36):e7.f (a0)=l_toFloFlow (a0):=by kernel_rfl
noncomputable def n7:Ent Tryz.prog ⟨[.v T36],[T36],false⟩:=⟨7,l_toFloFlow,fun a0 y hs h=>e7.ok _ y hs ((k7 a0).trans h)⟩
noncomputable def e42:Ent Tryz.prog ⟨[.v i6,.v i6,.v i6],[.bool],false⟩:=genE [] 42 _ [.t 6] [] [] [] mo Tryz.func42 rfl rfl (by kernel_rfl) (by kernel_rfl) (by kernel_rfl) rfl
theorem k42 (a0:Den i6) (a1:Den i6) (a2:Den i6):e42.f (a0,a1,a2)=s_l1In (a0,a1,a2):=by kernel_rfl
noncomputable def n42:Ent Tryz.prog ⟨[.v i6,.v i6,.v i6],[.bool],false⟩:=⟨42,s_l1In,fun ⟨a0,a1,a2⟩ y hs h=>e42.ok _ y hs ((k42 a0 a1 a2).trans h)⟩
noncomputable def e77:Ent Tryz.prog ⟨[.v T23],[.bool],false⟩:=genE [⟨_,n42,none,none⟩] 77 _ [.t 2] [⟨6,[(.normal,⟨[(1,.one (.vp 0 0)),(24,.one .b)],[.pk false T23],[]⟩,[])],[]⟩,⟨3,[(.normal,⟨[(1,.one (.vp 0 0)),(53,.one .b)],[.pk false T23],[]⟩,[])],[]⟩] [] [] mo Tryz.func77 rfl rfl (by kernel_rfl) (by kernel_rfl) (by kernel_rfl) rfl
theorem k77 (a0:Den T23):e77.f (a0)=s_JobOk (a0):=by kernel_rfl
noncomputable def n77:Ent Tryz.prog ⟨[.v T23],[.bool],false⟩:=⟨77,s_JobOk,fun a0 y hs h=>e77.ok _ y hs ((k77 a0).trans h)⟩
noncomputable def e123:Ent Tryz.prog ⟨[.v T62],[.bool],false⟩:=genE [⟨_,n42,none,none⟩] 123 _ [.t 2] [] [] [] mo Tryz.func123 rfl rfl (by kernel_rfl) (by kernel_rfl) (by kernel_rfl) rfl
theorem k123 (a0:Den T62):e123.f (a0)=s_WinOk (a0):=by kernel_rfl
noncomputable def n123:Ent Tryz.prog ⟨[.v T62],[.bool],false⟩:=⟨123,s_WinOk,fun a0 y hs h=>e123.ok _ y hs ((k123 a0).trans h)⟩
noncomputable def e124:Ent Tryz.prog ⟨[.v T162],[.bool],false⟩:=genE [⟨_,n42,none,none⟩] 124 _ [.t 2] [] [] [] mo Tryz.func124 rfl rfl (by kernel_rfl) (by kernel_rfl) (by kernel_rfl) rfl
theorem k124 (a0:Den T162):e124.f (a0)=s_AggOk (a0):=by kernel_rfl
noncomputable def n124:Ent Tryz.prog ⟨[.v T162],[.bool],false⟩:=⟨124,s_AggOk,fun a0 y hs h=>e124.ok _ y hs ((k124 a0).trans h)⟩
noncomputable def e120:Ent Tryz.prog ⟨[.v T23,.v T193,.v i6],[.bool],false⟩:=genE [⟨_,n42,none,none⟩,⟨_,n123,none,none⟩,⟨_,n124,none,none⟩] 120 _ [.t 6] [⟨3,[(.normal,⟨[(3,.one (.vp 0 0)),(4,.one (.vp 1 0)),(49,.one .b)],[.pk false T23,.pk false T193],[]⟩,[])],[]⟩] [] [] mo Tryz.func120 rfl rfl (by kernel_rfl) (by kernel_rfl) (by kernel_rfl) rfl
theorem k120 (a0:Den T23) (a1:Den T193) (a2:Den i6):e120.f (a0,a1,a2)=s_l7Row (a0,a1,a2):=by kernel_rfl
noncomputable def n120:Ent Tryz.prog ⟨[.v T23,.v T193,.v i6],[.bool],false⟩:=⟨120,s_l7Row,fun ⟨a0,a1,a2⟩ y hs h=>e120.ok _ y hs ((k120 a0 a1 a2).trans h)⟩
noncomputable def e155:Ent Tryz.prog ⟨[.v T62,.v T62],[.bool],false⟩:=genE [] 155 _ [.t 4] [] [] [] mo Tryz.func155 rfl rfl (by kernel_rfl) (by kernel_rfl) (by kernel_rfl) rfl
theorem k155 (a0:Den T62) (a1:Den T62):e155.f (a0,a1)=s_l2Less (a0,a1):=by kernel_rfl
noncomputable def n155:Ent Tryz.prog ⟨[.v T62,.v T62],[.bool],false⟩:=⟨155,s_l2Less,fun ⟨a0,a1⟩ y hs h=>e155.ok _ y hs ((k155 a0 a1).trans h)⟩
noncomputable def e121:Ent Tryz.prog ⟨[.v i6,.v T62,.v i6,.v T62],[.bool],false⟩:=genE [⟨_,n155,none,none⟩] 121 _ [.t 8] [] [] [] mo Tryz.func121 rfl rfl (by kernel_rfl) (by kernel_rfl) (by kernel_rfl) rfl
theorem k121 (a0:Den i6) (a1:Den T62) (a2:Den i6) (a3:Den T62):e121.f (a0,a1,a2,a3)=s_l5Ahead (a0,a1,a2,a3):=by kernel_rfl
noncomputable def n121:Ent Tryz.prog ⟨[.v i6,.v T62,.v i6,.v T62],[.bool],false⟩:=⟨121,s_l5Ahead,fun ⟨a0,a1,a2,a3⟩ y hs h=>e121.ok _ y hs ((k121 a0 a1 a2 a3).trans h)⟩
noncomputable def e122:Ent Tryz.prog ⟨[.v T62,.v T62],[.bool],false⟩:=genE [] 122 _ [.t 4] [] [] [] mo Tryz.func122 rfl rfl (by kernel_rfl) (by kernel_rfl) (by kernel_rfl) rfl
theorem k122 (a0:Den T62) (a1:Den T62):e122.f (a0,a1)=s_WinTouch (a0,a1):=by kernel_rfl
noncomputable def n122:Ent Tryz.prog ⟨[.v T62,.v T62],[.bool],false⟩:=⟨122,s_WinTouch,fun ⟨a0,a1⟩ y hs h=>e122.ok _ y hs ((k122 a0 a1).trans h)⟩
noncomputable def e81:Ent Tryz.prog ⟨[.v T23,.v T82],[.bool],false⟩:=genE [⟨_,n77,none,none⟩,⟨_,n42,none,none⟩,⟨_,n120,none,none⟩,⟨_,n121,none,none⟩,⟨_,n122,none,none⟩] 81 _ [.t 4] [⟨24,[(.normal,⟨[(2,.one (.vp 0 0)),(3,.one (.vp 1 0)),(22,.one .b)],[.pk false T23,.pk false T82v],[]⟩,[])],[]⟩,⟨17,[(.normal,⟨[(2,.one (.vp 0 0)),(3,.one (.vp 1 0)),(6,.one (.vp 2 0)),(66,.one .b)],[.pk false T23,.pk false T82v,.pk false T193],[]⟩,[])],[]⟩,⟨13,[(.normal,⟨[(2,.one (.vp 0 0)),(3,.one (.vp 1 0)),(6,.one (.vp 2 0)),(74,.one .b)],[.pk false T23,.pk false T82v,.pk false T193],[]⟩,[])],[]⟩,⟨11,[(.normal,⟨[(2,.one (.vp 0 0)),(3,.one (.vp 1 0)),(6,.one (.vp 2 0)),(96,.one .b)],[.pk false T23,.pk false T82v,.pk false T193],[]⟩,[])],[]⟩,⟨6,[(.normal,⟨[(2,.one (.vp 0 0)),(3,.one (.vp 1 0)),(6,.one (.vp 2 0)),(7,.one (.i .i64))],[.pk false T23,.pk false T82v,.pk false T193],[]⟩,[]),(.ret,⟨[(4,.one .b)],[],[]⟩,[]),(.exit 2,⟨[(2,.one (.vp 0 0)),(3,.one (.vp 1 0))],[.pk false T23,.pk false T82v],[]⟩,[])],[]⟩,⟨4,[(.ret,⟨[(4,.one .b)],[],[]⟩,[]),(.normal,⟨[(2,.one (.vp 0 0)),(3,.one (.vp 1 0))],[.pk false T23,.pk false T82v],[]⟩,[])],[]⟩,⟨2,[(.normal,⟨[(2,.one (.vp 0 0)),(3,.one (.vp 1 0)),(5,.one (.i .i64))],[.pk false T23,.pk false T82v],[]⟩,[]),(.ret,⟨[(4,.one .b)],[],[]⟩,[]),(.exit 0,⟨[],[],[]⟩,[])],[]⟩] [] [] mo Tryz.func81 rfl rfl (by kernel_rfl) (by kernel_rfl) (by kernel_rfl) rfl
theorem k81 (a0:Den T23) (a1:Den T82):e81.f (a0,a1)=s_OpOk (a0,a1):=by kernel_rfl
noncomputable def n81:Ent Tryz.prog ⟨[.v T23,.v T82],[.bool],false⟩:=⟨81,s_OpOk,fun ⟨a0,a1⟩ y hs h=>e81.ok _ y hs ((k81 a0 a1).trans h)⟩
noncomputable def e79:Ent Tryz.prog ⟨[.v T23,.v T134],[.bool],false⟩:=genE [⟨_,n81,none,none⟩,⟨_,n42,none,none⟩] 79 _ [.t 4] [⟨17,[(.normal,⟨[(3,.one (.vp 0 0)),(19,.one .b)],[.pk false T134v],[]⟩,[])],[]⟩,⟨5,[(.normal,⟨[(3,.one (.vp 0 0)),(5,.one (.i .i64))],[.pk false T134v],[]⟩,[])],[]⟩,⟨2,[(.normal,⟨[(3,.one (.vp 0 0)),(5,.one (.i .i64)),(6,.one (.i .i64))],[.pk false T134v],[]⟩,[]),(.ret,⟨[(4,.one .b)],[],[]⟩,[]),(.exit 0,⟨[(3,.one (.vp 0 0)),(5,.one (.i .i64))],[.pk false T134v],[]⟩,[])],[]⟩] [] [] mo Tryz.func79 rfl rfl (by kernel_rfl) (by kernel_rfl) (by kernel_rfl) rfl
theorem k79 (a0:Den T23) (a1:Den T134):e79.f (a0,a1)=s_l9Snap (a0,a1):=by kernel_rfl
noncomputable def n79:Ent Tryz.prog ⟨[.v T23,.v T134],[.bool],false⟩:=⟨79,s_l9Snap,fun ⟨a0,a1⟩ y hs h=>e79.ok _ y hs ((k79 a0 a1).trans h)⟩
noncomputable def e78:Ent Tryz.prog ⟨[.v T23,.v T32],[.bool],false⟩:=genE [⟨_,n42,none,none⟩,⟨_,n79,none,none⟩] 78 _ [.t 4] [⟨23,[(.normal,⟨[(2,.one (.vp 0 0)),(3,.one (.vp 1 0)),(26,.one .b)],[.pk false T23,.pk false T32v],[]⟩,[])],[]⟩,⟨12,[(.normal,⟨[(2,.one (.vp 0 0)),(3,.one (.vp 1 0)),(5,.one (.i .i64))],[.pk false T23,.pk false T32v],[]⟩,[]),(.ret,⟨[(4,.one .b)],[],[]⟩,[]),(.exit 0,⟨[(2,.one (.vp 0 0)),(3,.one (.vp 1 0))],[.pk false T23,.pk false T32v],[]⟩,[])],[]⟩,⟨2,[(.normal,⟨[(2,.one (.vp 0 0)),(3,.one (.vp 1 0)),(6,.one (.i .i64))],[.pk false T23,.pk false T32v],[]⟩,[]),(.ret,⟨[(4,.one .b)],[],[]⟩,[]),(.exit 2,⟨[],[],[]⟩,[])],[]⟩] [] [] mo Tryz.func78 rfl rfl (by kernel_rfl) (by kernel_rfl) (by kernel_rfl) rfl
theorem k78 (a0:Den T23) (a1:Den T32):e78.f (a0,a1)=s_l9Safe (a0,a1):=by kernel_rfl
noncomputable def n78:Ent Tryz.prog ⟨[.v T23,.v T32],[.bool],false⟩:=⟨78,s_l9Safe,fun ⟨a0,a1⟩ y hs h=>e78.ok _ y hs ((k78 a0 a1).trans h)⟩
noncomputable def e40:Ent Tryz.prog ⟨[.v T23,.v T34],[.bool],false⟩:=genE [⟨_,n77,none,none⟩,⟨_,n42,none,none⟩,⟨_,n78,none,none⟩,⟨_,n79,none,none⟩] 40 _ [.t 4] [⟨23,[(.normal,⟨[(2,.one (.vp 0 0)),(3,.one (.vp 1 0)),(61,.one .b)],[.pk false T23,.pk false T34v],[]⟩,[])],[]⟩,⟨17,[(.normal,⟨[(2,.one (.vp 0 0)),(3,.one (.vp 1 0)),(88,.one .b)],[.pk false T23,.pk false T34v],[]⟩,[])],[]⟩,⟨12,[(.normal,⟨[(2,.one (.vp 0 0)),(3,.one (.vp 1 0)),(5,.one (.i .i64))],[.pk false T23,.pk false T34v],[]⟩,[]),(.ret,⟨[(4,.one .b)],[],[]⟩,[]),(.exit 0,⟨[(2,.one (.vp 0 0)),(3,.one (.vp 1 0))],[.pk false T23,.pk false T34v],[]⟩,[])],[]⟩,⟨7,[(.normal,⟨[(2,.one (.vp 0 0)),(3,.one (.vp 1 0)),(152,.one .b)],[.pk false T23,.pk false T34v],[]⟩,[])],[]⟩,⟨2,[(.normal,⟨[(2,.one (.vp 0 0)),(3,.one (.vp 1 0)),(6,.one (.i .i64))],[.pk false T23,.pk false T34v],[]⟩,[]),(.ret,⟨[(4,.one .b)],[],[]⟩,[]),(.exit 2,⟨[],[],[]⟩,[])],[]⟩] [] [] mo Tryz.func40 rfl rfl (by kernel_rfl) (by kernel_rfl) (by kernel_rfl) rfl
theorem k40 (a0:Den T23) (a1:Den T34):e40.f (a0,a1)=s_CkpOk (a0,a1):=by kernel_rfl
noncomputable def n40:Ent Tryz.prog ⟨[.v T23,.v T34],[.bool],false⟩:=⟨40,s_CkpOk,fun ⟨a0,a1⟩ y hs h=>e40.ok _ y hs ((k40 a0 a1).trans h)⟩
noncomputable def e80:Ent Tryz.prog ⟨[.v T152],[.bool],false⟩:=genE [⟨_,n42,none,none⟩] 80 _ [.t 2] [⟨2,[(.ret,⟨[(2,.one .b)],[],[]⟩,[]),(.normal,⟨[(1,.one (.vp 0 0))],[.pk false T152],[]⟩,[])],[]⟩] [] [] mo Tryz.func80 rfl rfl (by kernel_rfl) (by kernel_rfl) (by kernel_rfl) rfl
theorem k80 (a0:Den T152):e80.f (a0)=s_ItmOk (a0):=by kernel_rfl
noncomputable def n80:Ent Tryz.prog ⟨[.v T152],[.bool],false⟩:=⟨80,s_ItmOk,fun a0 y hs h=>e80.ok _ y hs ((k80 a0).trans h)⟩
noncomputable def e41:Ent Tryz.prog ⟨[.v (.sl T152)],[.bool],false⟩:=genE [⟨_,n42,none,none⟩,⟨_,n80,none,none⟩] 41 _ [.t 2] [⟨20,[(.normal,⟨[(18,.one .b)],[],[]⟩,[])],[]⟩,⟨13,[(.normal,⟨[(38,.one .b)],[],[]⟩,[])],[]⟩,⟨4,[(.ret,⟨[(2,.one .b)],[],[]⟩,[]),(.normal,⟨[(3,.one (.i .i64))],[],[]⟩,[])],[]⟩,⟨2,[(.normal,⟨[(3,.one (.i .i64)),(4,.one (.i .i64))],[],[]⟩,[]),(.ret,⟨[(2,.one .b)],[],[]⟩,[]),(.exit 0,⟨[],[],[]⟩,[])],[]⟩] [] [] mo Tryz.func41 rfl rfl (by kernel_rfl) (by kernel_rfl) (by kernel_rfl) rfl
theorem k41 (a0:Den (.sl T152)):e41.f (a0)=s_LogOk (a0):=by kernel_rfl
noncomputable def n41:Ent Tryz.prog ⟨[.v (.sl T152)],[.bool],false⟩:=⟨41,s_LogOk,fun a0 y hs h=>e41.ok _ y hs ((k41 a0).trans h)⟩
noncomputable def e86:Ent Tryz.prog ⟨[.v T164],[.bool],false⟩:=genE [⟨_,n42,none,none⟩,⟨_,n123,none,none⟩,⟨_,n124,none,none⟩] 86 _ [.t 2] [⟨6,[(.normal,⟨[(1,.one (.vp 0 0)),(24,.one .b)],[.pk false T164],[]⟩,[])],[]⟩,⟨2,[(.normal,⟨[(2,.one .b)],[],[]⟩,[])],[]⟩] [] [] mo Tryz.func86 rfl rfl (by kernel_rfl) (by kernel_rfl) (by kernel_rfl) rfl
theorem k86 (a0:Den T164):e86.f (a0)=s_PanOk (a0):=by kernel_rfl
noncomputable def n86:Ent Tryz.prog ⟨[.v T164],[.bool],false⟩:=⟨86,s_PanOk,fun a0 y hs h=>e86.ok _ y hs ((k86 a0).trans h)⟩
noncomputable def e87:Ent Tryz.prog ⟨[.v T167],[.bool],false⟩:=genE [⟨_,n80,none,none⟩,⟨_,n123,none,none⟩,⟨_,n42,none,none⟩] 87 _ [.t 2] [] [] [] mo Tryz.func87 rfl rfl (by kernel_rfl) (by kernel_rfl) (by kernel_rfl) rfl
theorem k87 (a0:Den T167):e87.f (a0)=s_LatOk (a0):=by kernel_rfl
noncomputable def n87:Ent Tryz.prog ⟨[.v T167],[.bool],false⟩:=⟨87,s_LatOk,fun a0 y hs h=>e87.ok _ y hs ((k87 a0).trans h)⟩
noncomputable def e82:Ent Tryz.prog ⟨[.v T86],[.bool],false⟩:=genE [⟨_,n42,none,none⟩,⟨_,n86,none,none⟩,⟨_,n87,none,none⟩] 82 _ [.t 2] [⟨23,[(.normal,⟨[(1,.one (.vp 0 0)),(20,.one .b)],[.pk false T86v],[]⟩,[])],[]⟩,⟨12,[(.normal,⟨[(1,.one (.vp 0 0)),(3,.one (.i .i64))],[.pk false T86v],[]⟩,[]),(.ret,⟨[(2,.one .b)],[],[]⟩,[]),(.exit 0,⟨[(1,.one (.vp 0 0))],[.pk false T86v],[]⟩,[])],[]⟩,⟨2,[(.normal,⟨[(1,.one (.vp 0 0)),(4,.one (.i .i64))],[.pk false T86v],[]⟩,[]),(.ret,⟨[(2,.one .b)],[],[]⟩,[]),(.exit 2,⟨[],[],[]⟩,[])],[]⟩] [] [] mo Tryz.func82 rfl rfl (by kernel_rfl) (by kernel_rfl) (by kernel_rfl) rfl
theorem k82 (a0:Den T86):e82.f (a0)=s_l8Txn (a0):=by kernel_rfl
noncomputable def n82:Ent Tryz.prog ⟨[.v T86],[.bool],false⟩:=⟨82,s_l8Txn,fun a0 y hs h=>e82.ok _ y hs ((k82 a0).trans h)⟩
noncomputable def e83:Ent Tryz.prog ⟨[.v T23,.v T136],[.bool],false⟩:=genE [⟨_,n42,none,none⟩,⟨_,n80,none,none⟩] 83 _ [.t 4] [⟨13,[(.normal,⟨[(3,.one (.vp 0 0)),(17,.one .b)],[.pk false T136v],[]⟩,[])],[]⟩,⟨2,[(.normal,⟨[(3,.one (.vp 0 0)),(5,.one (.i .i64))],[.pk false T136v],[]⟩,[]),(.ret,⟨[(4,.one .b)],[],[]⟩,[]),(.exit 0,⟨[],[],[]⟩,[])],[]⟩] [] [] mo Tryz.func83 rfl rfl (by kernel_rfl) (by kernel_rfl) (by kernel_rfl) rfl
theorem k83 (a0:Den T23) (a1:Den T136):e83.f (a0,a1)=s_l8In (a0,a1):=by kernel_rfl
noncomputable def n83:Ent Tryz.prog ⟨[.v T23,.v T136],[.bool],false⟩:=⟨83,s_l8In,fun ⟨a0,a1⟩ y hs h=>e83.ok _ y hs ((k83 a0 a1).trans h)⟩
noncomputable def e84:Ent Tryz.prog ⟨[.v T88],[i6],false⟩:=genE [] 84 _ [.t 2] [⟨5,[(.normal,⟨[(1,.one (.vp 0 0)),(3,.one (.i .i64))],[.pk false T88v],[]⟩,[])],[]⟩,⟨2,[(.normal,⟨[(1,.one (.vp 0 0)),(3,.one (.i .i64)),(4,.one (.i .i64))],[.pk false T88v],[]⟩,[]),(.exit 0,⟨[(3,.one (.i .i64))],[],[]⟩,[])],[]⟩] [] [] mo Tryz.func84 rfl rfl (by kernel_rfl) (by kernel_rfl) (by kernel_rfl) rfl
theorem k84 (a0:Den T88):e84.f (a0)=s_TskHeld (a0):=by kernel_rfl
noncomputable def n84:Ent Tryz.prog ⟨[.v T88],[i6],false⟩:=⟨84,s_TskHeld,fun a0 y hs h=>e84.ok _ y hs ((k84 a0).trans h)⟩
noncomputable def e85:Ent Tryz.prog ⟨[.v T88],[i6],false⟩:=genE [] 85 _ [.t 2] [⟨5,[(.normal,⟨[(1,.one (.vp 0 0)),(3,.one (.i .i64))],[.pk false T88v],[]⟩,[])],[]⟩,⟨2,[(.normal,⟨[(1,.one (.vp 0 0)),(3,.one (.i .i64)),(4,.one (.i .i64))],[.pk false T88v],[]⟩,[]),(.exit 0,⟨[(3,.one (.i .i64))],[],[]⟩,[])],[]⟩] [] [] mo Tryz.func85 rfl rfl (by kernel_rfl) (by kernel_rfl) (by kernel_rfl) rfl
theorem k85 (a0:Den T88):e85.f (a0)=s_TskLow (a0):=by kernel_rfl
noncomputable def n85:Ent Tryz.prog ⟨[.v T88],[i6],false⟩:=⟨85,s_TskLow,fun a0 y hs h=>e85.ok _ y hs ((k85 a0).trans h)⟩
noncomputable def e43:Ent Tryz.prog ⟨[.v T23,.v T88],[.bool],false⟩:=genE [⟨_,n81,none,none⟩,⟨_,n42,none,none⟩,⟨_,n82,none,none⟩,⟨_,n83,none,none⟩,⟨_,n84,none,none⟩,⟨_,n85,none,none⟩] 43 _ [.t 4] [⟨13,[(.normal,⟨[(2,.one (.vp 0 0)),(3,.one (.vp 1 0)),(36,.one .b)],[.pk false T23,.pk false T88v],[]⟩,[])],[]⟩,⟨2,[(.normal,⟨[(2,.one (.vp 0 0)),(3,.one (.vp 1 0)),(5,.one (.i .i64))],[.pk false T23,.pk false T88v],[]⟩,[]),(.ret,⟨[(4,.one .b)],[],[]⟩,[]),(.exit 0,⟨[(3,.one (.vp 0 0))],[.pk false T88v],[]⟩,[])],[]⟩] [] [] mo Tryz.func43 rfl rfl (by kernel_rfl) (by kernel_rfl) (by kernel_rfl) rfl
theorem k43 (a0:Den T23) (a1:Den T88):e43.f (a0,a1)=s_TskOk (a0,a1):=by kernel_rfl
noncomputable def n43:Ent Tryz.prog ⟨[.v T23,.v T88],[.bool],false⟩:=⟨43,s_TskOk,fun ⟨a0,a1⟩ y hs h=>e43.ok _ y hs ((k43 a0 a1).trans h)⟩
noncomputable def e44:Ent Tryz.prog ⟨[.v T92s],[.bool],false⟩:=genE [⟨_,n42,none,none⟩,⟨_,n82,none,none⟩,⟨_,n86,none,none⟩,⟨_,n87,none,none⟩] 44 _ [.t 2] [⟨33,[(.normal,⟨[(1,.one (.vp 0 0)),(27,.one .b)],[.pk false T92sv],[]⟩,[])],[]⟩,⟨27,[(.normal,⟨[(1,.one (.vp 0 0)),(72,.one .b)],[.pk false T92sv],[]⟩,[])],[]⟩,⟨22,[(.normal,⟨[(1,.one (.vp 0 0)),(3,.one (.i .i64))],[.pk false T92sv],[]⟩,[]),(.ret,⟨[(2,.one .b)],[],[]⟩,[]),(.exit 0,⟨[(1,.one (.vp 0 0))],[.pk false T92sv],[]⟩,[])],[]⟩,⟨12,[(.normal,⟨[(1,.one (.vp 0 0)),(4,.one (.i .i64))],[.pk false T92sv],[]⟩,[]),(.ret,⟨[(2,.one .b)],[],[]⟩,[]),(.exit 2,⟨[(1,.one (.vp 0 0))],[.pk false T92sv],[]⟩,[])],[]⟩,⟨2,[(.normal,⟨[(1,.one (.vp 0 0)),(5,.one (.i .i64))],[.pk false T92sv],[]⟩,[]),(.ret,⟨[(2,.one .b)],[],[]⟩,[]),(.exit 4,⟨[],[],[]⟩,[])],[]⟩] [] [] mo Tryz.func44 rfl rfl (by kernel_rfl) (by kernel_rfl) (by kernel_rfl) rfl
theorem k44 (a0:Den T92s):e44.f (a0)=s_l10Sink (a0):=by kernel_rfl
noncomputable def n44:Ent Tryz.prog ⟨[.v T92s],[.bool],false⟩:=⟨44,s_l10Sink,fun a0 y hs h=>e44.ok _ y hs ((k44 a0).trans h)⟩
noncomputable def e17:Ent Tryz.prog ⟨[.v T36s],[.bool],false⟩:=genE [⟨_,n40,none,none⟩,⟨_,n41,none,none⟩,⟨_,n42,none,none⟩,⟨_,n43,none,none⟩,⟨_,n44,none,none⟩] 17 _ [.t 2] [⟨23,[(.normal,⟨[(1,.one (.vp 0 0)),(3,.one (.vp 1 0)),(44,.one .b)],[.pk false T36sv,.pk false T23],[]⟩,[])],[]⟩,⟨17,[(.normal,⟨[(1,.one (.vp 0 0)),(3,.one (.vp 1 0)),(102,.one .b)],[.pk false T36sv,.pk false T23],[]⟩,[])],[]⟩,⟨12,[(.normal,⟨[(1,.one (.vp 0 0)),(3,.one (.vp 1 0)),(4,.one (.i .i64))],[.pk false T36sv,.pk false T23],[]⟩,[]),(.ret,⟨[(2,.one .b)],[],[]⟩,[]),(.exit 0,⟨[(1,.one (.vp 0 0)),(3,.one (.vp 1 0))],[.pk false T36sv,.pk false T23],[]⟩,[])],[]⟩,⟨7,[(.normal,⟨[(1,.one (.vp 0 0)),(3,.one (.vp 1 0)),(137,.one .b)],[.pk false T36sv,.pk false T23],[]⟩,[])],[]⟩,⟨2,[(.normal,⟨[(1,.one (.vp 0 0)),(3,.one (.vp 1 0)),(5,.one (.i .i64))],[.pk false T36sv,.pk false T23],[]⟩,[]),(.ret,⟨[(2,.one .b)],[],[]⟩,[]),(.exit 2,⟨[],[],[]⟩,[])],[]⟩] [] [] mo Tryz.func17 rfl rfl (by kernel_rfl) (by kernel_rfl) (by kernel_rfl) rfl
theorem k17 (a0:Den T36s):e17.f (a0)=s_FloOk (a0):=by kernel_rfl
noncomputable def n17:Ent Tryz.prog ⟨[.v T36s],[.bool],false⟩:=⟨17,s_FloOk,fun a0 y hs h=>e17.ok _ y hs ((k17 a0).trans h)⟩
noncomputable def e31:Ent Tryz.prog ⟨[.v T36s],[.bool],false⟩:=genE [] 31 _ [.t 2] [⟨28,[(.normal,⟨[(1,.one (.vp 0 0)),(45,.one .b)],[.pk false T36sv],[]⟩,[])],[]⟩,⟨23,[(.normal,⟨[(1,.one (.vp 0 0)),(3,.one (.i .i64))],[.pk false T36sv],[]⟩,[]),(.ret,⟨[(2,.one .b)],[],[]⟩,[]),(.exit 0,⟨[(1,.one (.vp 0 0))],[.pk false T36sv],[]⟩,[])],[]⟩,⟨17,[(.normal,⟨[(1,.one (.vp 0 0)),(5,.one (.vp 1 0)),(93,.one .b)],[.pk false T36sv,.pk false T88v],[]⟩,[])],[]⟩,⟨6,[(.normal,⟨[(1,.one (.vp 0 0)),(5,.one (.vp 1 0)),(6,.one (.i .i64))],[.pk false T36sv,.pk false T88v],[]⟩,[]),(.ret,⟨[(2,.one .b)],[],[]⟩,[]),(.exit 4,⟨[(1,.one (.vp 0 0))],[.pk false T36sv],[]⟩,[])],[]⟩,⟨4,[(.ret,⟨[(2,.one .b)],[],[]⟩,[]),(.normal,⟨[(1,.one (.vp 0 0))],[.pk false T36sv],[]⟩,[])],[]⟩,⟨2,[(.normal,⟨[(1,.one (.vp 0 0)),(4,.one (.i .i64))],[.pk false T36sv],[]⟩,[]),(.ret,⟨[(2,.one .b)],[],[]⟩,[]),(.exit 2,⟨[],[],[]⟩,[])],[]⟩] [] [] mo Tryz.func31 rfl rfl (by kernel_rfl) (by kernel_rfl) (by kernel_rfl) rfl
theorem k31 (a0:Den T36s):e31.f (a0)=s_l11Done (a0):=by kernel_rfl
noncomputable def n31:Ent Tryz.prog ⟨[.v T36s],[.bool],false⟩:=⟨31,s_l11Done,fun a0 y hs h=>e31.ok _ y hs ((k31 a0).trans h)⟩
noncomputable def e10:Ent Tryz.prog ⟨[.v T36s],[.bool],false⟩:=genE [⟨_,n17,none,none⟩,⟨_,n31,none,none⟩] 10 _ [.t 2] [] [] [] mo Tryz.func10 rfl rfl (by kernel_rfl) (by kernel_rfl) (by kernel_rfl) rfl
theorem k10 (a0:Den T36s):e10.f (a0)=s_FloDone (a0):=by kernel_rfl
noncomputable def n10:Ent Tryz.prog ⟨[.v T36s],[.bool],false⟩:=⟨10,s_FloDone,fun a0 y hs h=>e10.ok _ y hs ((k10 a0).trans h)⟩
noncomputable def e55:Ent Tryz.prog ⟨[.v i6,.v i6,.v i6],[.bool],false⟩:=genE [] 55 _ [.t 6] [] [] [] mo Tryz.func55 rfl rfl (by kernel_rfl) (by kernel_rfl) (by kernel_rfl) rfl
theorem k55 (a0:Den i6) (a1:Den i6) (a2:Den i6):e55.f (a0,a1,a2)=i_in (a0,a1,a2):=by kernel_rfl
noncomputable def n55:Ent Tryz.prog ⟨[.v i6,.v i6,.v i6],[.bool],false⟩:=⟨55,i_in,fun ⟨a0,a1,a2⟩ y hs h=>e55.ok _ y hs ((k55 a0 a1 a2).trans h)⟩
noncomputable def e129:Ent Tryz.prog ⟨[.v i6],[.bool],false⟩:=genE [⟨_,n55,none,none⟩] 129 _ [.t 2] [] [] [] mo Tryz.func129 rfl rfl (by kernel_rfl) (by kernel_rfl) (by kernel_rfl) rfl
theorem k129 (a0:Den i6):e129.f (a0)=i_tells (a0):=by kernel_rfl
noncomputable def n129:Ent Tryz.prog ⟨[.v i6],[.bool],false⟩:=⟨129,i_tells,fun a0 y hs h=>e129.ok _ y hs ((k129 a0).trans h)⟩
noncomputable def e96:Ent Tryz.prog ⟨[.v T23],[.bool],false⟩:=genE [⟨_,n55,none,none⟩,⟨_,n129,none,none⟩] 96 _ [.t 2] [⟨7,[(.normal,⟨[(1,.one (.vp 0 0)),(25,.one .b)],[.pk false T23],[]⟩,[])],[]⟩,⟨1,[(.normal,⟨[(1,.one (.vp 0 0)),(3,.one .b)],[.pk false T23],[]⟩,[])],[]⟩] [] [] mo Tryz.func96 rfl rfl (by kernel_rfl) (by kernel_rfl) (by kernel_rfl) rfl
theorem k96 (a0:Den T23):e96.f (a0)=i_JobOk (a0):=by kernel_rfl
noncomputable def n96:Ent Tryz.prog ⟨[.v T23],[.bool],false⟩:=⟨96,i_JobOk,fun a0 y hs h=>e96.ok _ y hs ((k96 a0).trans h)⟩
noncomputable def e130:Ent Tryz.prog ⟨[.v i6],[.bool],false⟩:=genE [⟨_,n55,none,none⟩] 130 _ [.t 2] [] [] [] mo Tryz.func130 rfl rfl (by kernel_rfl) (by kernel_rfl) (by kernel_rfl) rfl
theorem k130 (a0:Den i6):e130.f (a0)=i_CkpSafe_ok_1 (a0):=by kernel_rfl
noncomputable def n130:Ent Tryz.prog ⟨[.v i6],[.bool],false⟩:=⟨130,i_CkpSafe_ok_1,fun a0 y hs h=>e130.ok _ y hs ((k130 a0).trans h)⟩
noncomputable def e136:Ent Tryz.prog ⟨[.v i6],[.bool],false⟩:=genE [⟨_,n55,none,none⟩] 136 _ [.t 2] [] [] [] mo Tryz.func136 rfl rfl (by kernel_rfl) (by kernel_rfl) (by kernel_rfl) rfl
theorem k136 (a0:Den i6):e136.f (a0)=i_isTime (a0):=by kernel_rfl
noncomputable def n136:Ent Tryz.prog ⟨[.v i6],[.bool],false⟩:=⟨136,i_isTime,fun a0 y hs h=>e136.ok _ y hs ((k136 a0).trans h)⟩
noncomputable def e162:Ent Tryz.prog ⟨[.v i6],[.bool],false⟩:=genE [⟨_,n55,none,none⟩] 162 _ [.t 2] [] [] [] mo Tryz.func162 rfl rfl (by kernel_rfl) (by kernel_rfl) (by kernel_rfl) rfl
theorem k162 (a0:Den i6):e162.f (a0)=i_isKey (a0):=by kernel_rfl
noncomputable def n162:Ent Tryz.prog ⟨[.v i6],[.bool],false⟩:=⟨162,i_isKey,fun a0 y hs h=>e162.ok _ y hs ((k162 a0).trans h)⟩
noncomputable def e163:Ent Tryz.prog ⟨[.v T62],[.bool],false⟩:=genE [⟨_,n55,none,none⟩] 163 _ [.t 2] [] [] [] mo Tryz.func163 rfl rfl (by kernel_rfl) (by kernel_rfl) (by kernel_rfl) rfl
theorem k163 (a0:Den T62):e163.f (a0)=i_WinOk (a0):=by kernel_rfl
noncomputable def n163:Ent Tryz.prog ⟨[.v T62],[.bool],false⟩:=⟨163,i_WinOk,fun a0 y hs h=>e163.ok _ y hs ((k163 a0).trans h)⟩
noncomputable def e164:Ent Tryz.prog ⟨[.v T162],[.bool],false⟩:=genE [⟨_,n55,none,none⟩] 164 _ [.t 2] [] [] [] mo Tryz.func164 rfl rfl (by kernel_rfl) (by kernel_rfl) (by kernel_rfl) rfl
theorem k164 (a0:Den T162):e164.f (a0)=i_AggOk (a0):=by kernel_rfl
noncomputable def n164:Ent Tryz.prog ⟨[.v T162],[.bool],false⟩:=⟨164,i_AggOk,fun a0 y hs h=>e164.ok _ y hs ((k164 a0).trans h)⟩
noncomputable def e137:Ent Tryz.prog ⟨[.v T193,.v T23,.v i6],[.bool],false⟩:=genE [⟨_,n162,none,none⟩,⟨_,n163,none,none⟩,⟨_,n164,none,none⟩,⟨_,n55,none,none⟩] 137 _ [.t 6] [⟨4,[(.normal,⟨[(3,.one (.vp 0 0)),(4,.one (.vp 1 0)),(50,.one .b)],[.pk false T193,.pk false T23],[]⟩,[])],[]⟩] [] [] mo Tryz.func137 rfl rfl (by kernel_rfl) (by kernel_rfl) (by kernel_rfl) rfl
theorem k137 (a0:Den T193) (a1:Den T23) (a2:Den i6):e137.f (a0,a1,a2)=i_OpRow_ok (a0,a1,a2):=by kernel_rfl
noncomputable def n137:Ent Tryz.prog ⟨[.v T193,.v T23,.v i6],[.bool],false⟩:=⟨137,i_OpRow_ok,fun ⟨a0,a1,a2⟩ y hs h=>e137.ok _ y hs ((k137 a0 a1 a2).trans h)⟩
noncomputable def e176:Ent Tryz.prog ⟨[.v i6],[.bool],false⟩:=genE [] 176 _ [.t 2] [] [] [] mo Tryz.func176 rfl rfl (by kernel_rfl) (by kernel_rfl) (by kernel_rfl) rfl
theorem k176 (a0:Den i6):e176.f (a0)=g_isNaN_int (a0):=by kernel_rfl
noncomputable def n176:Ent Tryz.prog ⟨[.v i6],[.bool],false⟩:=⟨176,g_isNaN_int,fun a0 y hs h=>e176.ok _ y hs ((k176 a0).trans h)⟩
noncomputable def e166:Ent Tryz.prog ⟨[.v i6,.v i6],[i6],false⟩:=genE [⟨_,n176,none,none⟩] 166 _ [.t 4] [⟨10,[(.ret,⟨[(4,.one (.i .i64))],[],[]⟩,[]),(.normal,⟨[],[],[]⟩,[])],[]⟩] [] [] mo Tryz.func166 rfl rfl (by kernel_rfl) (by kernel_rfl) (by kernel_rfl) rfl
theorem k166 (a0:Den i6) (a1:Den i6):e166.f (a0,a1)=g_Compare_int (a0,a1):=by kernel_rfl
noncomputable def n166:Ent Tryz.prog ⟨[.v i6,.v i6],[i6],false⟩:=⟨166,g_Compare_int,fun ⟨a0,a1⟩ y hs h=>e166.ok _ y hs ((k166 a0 a1).trans h)⟩
noncomputable def e165:Ent Tryz.prog ⟨[.v (.sl i6)],[i6],false⟩:=genE [] 165 _ [.t 2] [⟨2,[(.normal,⟨[(8,.one (.i .i64))],[],[]⟩,[]),(.ret,⟨[(2,.one (.i .i64))],[],[]⟩,[]),(.exit 0,⟨[],[],[]⟩,[])],[]⟩] [] [] mo Tryz.func165 rfl rfl (by kernel_rfl) (by kernel_rfl) (by kernel_rfl) rfl
theorem k165 (a0:Den (.sl i6)):e165.f (a0)=g_Or_int (a0):=by kernel_rfl
noncomputable def n165:Ent Tryz.prog ⟨[.v (.sl i6)],[i6],false⟩:=⟨165,g_Or_int,fun a0 y hs h=>e165.ok _ y hs ((k165 a0).trans h)⟩
noncomputable def e167:Ent Tryz.prog ⟨[.v T62,.v T62],[i6],false⟩:=genE [⟨_,n166,none,none⟩,⟨_,n165,none,none⟩] 167 _ [.t 4] [] [i6] [] mo Tryz.func167 rfl rfl (by kernel_rfl) (by kernel_rfl) (by kernel_rfl) rfl
theorem k167 (a0:Den T62) (a1:Den T62):e167.f (a0,a1)=i_WinWin_compare (a0,a1):=by kernel_rfl
noncomputable def n167:Ent Tryz.prog ⟨[.v T62,.v T62],[i6],false⟩:=⟨167,i_WinWin_compare,fun ⟨a0,a1⟩ y hs h=>e167.ok _ y hs ((k167 a0 a1).trans h)⟩
noncomputable def e138:Ent Tryz.prog ⟨[.v T193,.v T193],[i6],false⟩:=genE [⟨_,n166,none,none⟩,⟨_,n167,none,none⟩,⟨_,n165,none,none⟩] 138 _ [.t 4] [] [i6] [] mo Tryz.func138 rfl rfl (by kernel_rfl) (by kernel_rfl) (by kernel_rfl) rfl
theorem k138 (a0:Den T193) (a1:Den T193):e138.f (a0,a1)=i_OpRow_compare (a0,a1):=by kernel_rfl
noncomputable def n138:Ent Tryz.prog ⟨[.v T193,.v T193],[i6],false⟩:=⟨138,i_OpRow_compare,fun ⟨a0,a1⟩ y hs h=>e138.ok _ y hs ((k138 a0 a1).trans h)⟩
noncomputable def e140:Ent Tryz.prog ⟨[.v T62,.v T62],[.bool],false⟩:=genE [] 140 _ [.t 4] [] [] [] mo Tryz.func140 rfl rfl (by kernel_rfl) (by kernel_rfl) (by kernel_rfl) rfl
theorem k140 (a0:Den T62) (a1:Den T62):e140.f (a0,a1)=i_WinTouch (a0,a1):=by kernel_rfl
noncomputable def n140:Ent Tryz.prog ⟨[.v T62,.v T62],[.bool],false⟩:=⟨140,i_WinTouch,fun ⟨a0,a1⟩ y hs h=>e140.ok _ y hs ((k140 a0 a1).trans h)⟩
noncomputable def e139:Ent Tryz.prog ⟨[.v T193,.rp T193],[.bool],false⟩:=genE [⟨_,n140,none,none⟩] 139 _ [.t 3] [] [] [] mo Tryz.func139 rfl rfl (by kernel_rfl) (by kernel_rfl) (by kernel_rfl) rfl
theorem k139 (a0:Den T193) (a1:Den T193):e139.f (a0,a1)=i_OpOk__1 (a0,a1):=by kernel_rfl
noncomputable def n139:Ent Tryz.prog ⟨[.v T193,.rp T193],[.bool],false⟩:=⟨139,i_OpOk__1,fun ⟨a0,a1⟩ y hs h=>e139.ok _ y hs ((k139 a0 a1).trans h)⟩
noncomputable def e168:Ent Tryz.prog ⟨[.v (.sl T193),.f T193 .bool],[i6],false⟩:=genE [] 168 _ [.t 4] [⟨2,[(.normal,⟨[(8,.one (.i .i64))],[],[]⟩,[]),(.ret,⟨[(4,.one (.i .i64))],[],[]⟩,[]),(.exit 0,⟨[],[],[]⟩,[])],[]⟩] [] [] mo Tryz.func168 rfl rfl (by kernel_rfl) (by kernel_rfl) (by kernel_rfl) rfl
theorem k168 (a0:Den (.sl T193)) (a1:Clo Tryz.prog T193 .bool):e168.f (a0,a1)=g_IndexFunc_OpRow (a0,a1.p):=by kernel_rfl
noncomputable def n168:Ent Tryz.prog ⟨[.v (.sl T193),.f T193 .bool],[i6],false⟩:=⟨168,fun x=>g_IndexFunc_OpRow (x.1,x.2.p),fun ⟨a0,a1⟩ y hs h=>e168.ok _ y hs ((k168 a0 a1).trans h)⟩
noncomputable def e141:Ent Tryz.prog ⟨[.v (.sl T193),.f T193 .bool],[.bool],false⟩:=genE [⟨_,n168,none,none⟩] 141 _ [.t 4] [] [] [] mo Tryz.func141 rfl rfl (by kernel_rfl) (by kernel_rfl) (by kernel_rfl) rfl
theorem k141 (a0:Den (.sl T193)) (a1:Clo Tryz.prog T193 .bool):e141.f (a0,a1)=g_ContainsFunc_OpRow (a0,a1.p):=by kernel_rfl
noncomputable def n141:Ent Tryz.prog ⟨[.v (.sl T193),.f T193 .bool],[.bool],false⟩:=⟨141,fun x=>g_ContainsFunc_OpRow (x.1,x.2.p),fun ⟨a0,a1⟩ y hs h=>e141.ok _ y hs ((k141 a0 a1).trans h)⟩
noncomputable def e101:Ent Tryz.prog ⟨[.v T23,.v T82],[.bool],false⟩:=genE [⟨_,n96,none,none⟩,⟨_,n136,none,none⟩,⟨_,n137,none,none⟩,⟨_,n138,none,none⟩,⟨_,n139,none,none⟩,⟨_,n141,none,none⟩] 101 _ [.t 4] [⟨18,[(.normal,⟨[(2,.one (.vp 0 0)),(3,.one (.vp 1 0)),(22,.one .b)],[.pk false T23,.pk false T82v],[]⟩,[])],[]⟩,⟨11,[(.normal,⟨[(2,.one (.vp 0 0)),(3,.one (.vp 1 0)),(6,.one (.vp 2 0)),(51,.one .b)],[.pk false T23,.pk false T82v,.pk false T193],[]⟩,[])],[]⟩,⟨7,[(.normal,⟨[(2,.one (.vp 0 0)),(3,.one (.vp 1 0)),(63,.one .b)],[.pk false T23,.pk false T82v],[]⟩,[])],[]⟩,⟨4,[(.ret,⟨[(4,.one .b)],[],[]⟩,[]),(.normal,⟨[(2,.one (.vp 0 0)),(3,.one (.vp 1 0))],[.pk false T23,.pk false T82v],[]⟩,[])],[]⟩,⟨2,[(.normal,⟨[(2,.one (.vp 0 0)),(3,.one (.vp 1 0)),(26,.one (.i .i64))],[.pk false T23,.pk false T82v],[]⟩,[]),(.ret,⟨[(4,.one .b)],[],[]⟩,[]),(.exit 0,⟨[],[],[]⟩,[])],[]⟩] [] [(8,[6])] mo Tryz.func101 rfl rfl (by kernel_rfl) (by kernel_rfl) (by kernel_rfl) rfl
theorem k101 (a0:Den T23) (a1:Den T82):e101.f (a0,a1)=i_OpOk (a0,a1):=by kernel_rfl
noncomputable def n101:Ent Tryz.prog ⟨[.v T23,.v T82],[.bool],false⟩:=⟨101,i_OpOk,fun ⟨a0,a1⟩ y hs h=>e101.ok _ y hs ((k101 a0 a1).trans h)⟩
noncomputable def e159:Ent Tryz.prog ⟨[.v (.sl i6),.f i6 .bool],[i6],false⟩:=genE [] 159 _ [.t 4] [⟨2,[(.normal,⟨[(8,.one (.i .i64))],[],[]⟩,[]),(.ret,⟨[(4,.one (.i .i64))],[],[]⟩,[]),(.exit 0,⟨[],[],[]⟩,[])],[]⟩] [] [] mo Tryz.func159 rfl rfl (by kernel_rfl) (by kernel_rfl) (by kernel_rfl) rfl
theorem k159 (a0:Den (.sl i6)) (a1:Clo Tryz.prog i6 .bool):e159.f (a0,a1)=g_IndexFunc_int (a0,a1.p):=by kernel_rfl
noncomputable def n159:Ent Tryz.prog ⟨[.v (.sl i6),.f i6 .bool],[i6],false⟩:=⟨159,fun x=>g_IndexFunc_int (x.1,x.2.p),fun ⟨a0,a1⟩ y hs h=>e159.ok _ y hs ((k159 a0 a1).trans h)⟩
noncomputable def e132:Ent Tryz.prog ⟨[.v (.sl i6),.f i6 .bool],[.bool],false⟩:=genE [⟨_,n159,none,none⟩] 132 _ [.t 4] [] [] [] mo Tryz.func132 rfl rfl (by kernel_rfl) (by kernel_rfl) (by kernel_rfl) rfl
theorem k132 (a0:Den (.sl i6)) (a1:Clo Tryz.prog i6 .bool):e132.f (a0,a1)=g_ContainsFunc_int (a0,a1.p):=by kernel_rfl
noncomputable def n132:Ent Tryz.prog ⟨[.v (.sl i6),.f i6 .bool],[.bool],false⟩:=⟨132,fun x=>g_ContainsFunc_int (x.1,x.2.p),fun ⟨a0,a1⟩ y hs h=>e132.ok _ y hs ((k132 a0 a1).trans h)⟩
noncomputable def e161:Ent Tryz.prog ⟨[.v i6],[.bool],false⟩:=genE [⟨_,n136,none,none⟩] 161 _ [.t 2] [] [] [] mo Tryz.func161 rfl rfl (by kernel_rfl) (by kernel_rfl) (by kernel_rfl) rfl
theorem k161 (a0:Den i6):e161.f (a0)=i_marksOk__1 (a0):=by kernel_rfl
noncomputable def n161:Ent Tryz.prog ⟨[.v i6],[.bool],false⟩:=⟨161,i_marksOk__1,fun a0 y hs h=>e161.ok _ y hs ((k161 a0).trans h)⟩
noncomputable def e134:Ent Tryz.prog ⟨[.v T23,.v (.sl i6)],[.bool],false⟩:=genE [⟨_,n132,none,none⟩,⟨_,n161,none,none⟩] 134 _ [.t 4] [] [] [] mo Tryz.func134 rfl rfl (by kernel_rfl) (by kernel_rfl) (by kernel_rfl) rfl
theorem k134 (a0:Den T23) (a1:Den (.sl i6)):e134.f (a0,a1)=i_marksOk (a0,a1):=by kernel_rfl
noncomputable def n134:Ent Tryz.prog ⟨[.v T23,.v (.sl i6)],[.bool],false⟩:=⟨134,i_marksOk,fun ⟨a0,a1⟩ y hs h=>e134.ok _ y hs ((k134 a0 a1).trans h)⟩
noncomputable def e135:Ent Tryz.prog ⟨[.v (.sl i6)],[i6],false⟩:=genE [] 135 _ [.t 2] [⟨2,[(.normal,⟨[(3,.one (.i .i64)),(4,.one (.i .i64))],[],[]⟩,[]),(.exit 0,⟨[(3,.one (.i .i64))],[],[]⟩,[])],[]⟩] [] [] mo Tryz.func135 rfl rfl (by kernel_rfl) (by kernel_rfl) (by kernel_rfl) rfl
theorem k135 (a0:Den (.sl i6)):e135.f (a0)=g_Min_int (a0):=by kernel_rfl
noncomputable def n135:Ent Tryz.prog ⟨[.v (.sl i6)],[i6],false⟩:=⟨135,g_Min_int,fun a0 y hs h=>e135.ok _ y hs ((k135 a0).trans h)⟩
noncomputable def e98:Ent Tryz.prog ⟨[.v T134,.v T23],[.bool],false⟩:=genE [⟨_,n101,none,none⟩,⟨_,n134,none,none⟩,⟨_,n135,none,none⟩] 98 _ [.t 4] [] [] [] mo Tryz.func98 rfl rfl (by kernel_rfl) (by kernel_rfl) (by kernel_rfl) rfl
theorem k98 (a0:Den T134) (a1:Den T23):e98.f (a0,a1)=i_CkpSnap_ok (a0,a1):=by kernel_rfl
noncomputable def n98:Ent Tryz.prog ⟨[.v T134,.v T23],[.bool],false⟩:=⟨98,i_CkpSnap_ok,fun ⟨a0,a1⟩ y hs h=>e98.ok _ y hs ((k98 a0 a1).trans h)⟩
noncomputable def e131:Ent Tryz.prog ⟨[.v T134,.rp T23],[.bool],false⟩:=genE [⟨_,n98,none,none⟩] 131 _ [.t 3] [] [] [] mo Tryz.func131 rfl rfl (by kernel_rfl) (by kernel_rfl) (by kernel_rfl) rfl
theorem k131 (a0:Den T134) (a1:Den T23):e131.f (a0,a1)=i_CkpSafe_ok_2 (a0,a1):=by kernel_rfl
noncomputable def n131:Ent Tryz.prog ⟨[.v T134,.rp T23],[.bool],false⟩:=⟨131,i_CkpSafe_ok_2,fun ⟨a0,a1⟩ y hs h=>e131.ok _ y hs ((k131 a0 a1).trans h)⟩
noncomputable def e160:Ent Tryz.prog ⟨[.v (.sl T134),.f T134 .bool],[i6],false⟩:=genE [] 160 _ [.t 4] [⟨2,[(.normal,⟨[(8,.one (.i .i64))],[],[]⟩,[]),(.ret,⟨[(4,.one (.i .i64))],[],[]⟩,[]),(.exit 0,⟨[],[],[]⟩,[])],[]⟩] [] [] mo Tryz.func160 rfl rfl (by kernel_rfl) (by kernel_rfl) (by kernel_rfl) rfl
theorem k160 (a0:Den (.sl T134)) (a1:Clo Tryz.prog T134 .bool):e160.f (a0,a1)=g_IndexFunc_CkpSnap (a0,a1.p):=by kernel_rfl
noncomputable def n160:Ent Tryz.prog ⟨[.v (.sl T134),.f T134 .bool],[i6],false⟩:=⟨160,fun x=>g_IndexFunc_CkpSnap (x.1,x.2.p),fun ⟨a0,a1⟩ y hs h=>e160.ok _ y hs ((k160 a0 a1).trans h)⟩
noncomputable def e133:Ent Tryz.prog ⟨[.v (.sl T134),.f T134 .bool],[.bool],false⟩:=genE [⟨_,n160,none,none⟩] 133 _ [.t 4] [] [] [] mo Tryz.func133 rfl rfl (by kernel_rfl) (by kernel_rfl) (by kernel_rfl) rfl
theorem k133 (a0:Den (.sl T134)) (a1:Clo Tryz.prog T134 .bool):e133.f (a0,a1)=g_ContainsFunc_CkpSnap (a0,a1.p):=by kernel_rfl
noncomputable def n133:Ent Tryz.prog ⟨[.v (.sl T134),.f T134 .bool],[.bool],false⟩:=⟨133,fun x=>g_ContainsFunc_CkpSnap (x.1,x.2.p),fun ⟨a0,a1⟩ y hs h=>e133.ok _ y hs ((k133 a0 a1).trans h)⟩
noncomputable def e97:Ent Tryz.prog ⟨[.v T32,.v T23],[.bool],false⟩:=genE [⟨_,n130,none,none⟩,⟨_,n131,none,none⟩,⟨_,n55,none,none⟩,⟨_,n132,none,none⟩,⟨_,n133,none,none⟩] 97 _ [.t 4] [] [] [(1,[3])] mo Tryz.func97 rfl rfl (by kernel_rfl) (by kernel_rfl) (by kernel_rfl) rfl
theorem k97 (a0:Den T32) (a1:Den T23):e97.f (a0,a1)=i_CkpSafe_ok (a0,a1):=by kernel_rfl
noncomputable def n97:Ent Tryz.prog ⟨[.v T32,.v T23],[.bool],false⟩:=⟨97,i_CkpSafe_ok,fun ⟨a0,a1⟩ y hs h=>e97.ok _ y hs ((k97 a0 a1).trans h)⟩
noncomputable def e99:Ent Tryz.prog ⟨[.v T134],[.bool],false⟩:=genE [] 99 _ [.t 2] [] [] [] mo Tryz.func99 rfl rfl (by kernel_rfl) (by kernel_rfl) (by kernel_rfl) rfl
theorem k99 (a0:Den T134):e99.f (a0)=i_CkpSnap_empty (a0):=by kernel_rfl
noncomputable def n99:Ent Tryz.prog ⟨[.v T134],[.bool],false⟩:=⟨99,i_CkpSnap_empty,fun a0 y hs h=>e99.ok _ y hs ((k99 a0).trans h)⟩
noncomputable def e53:Ent Tryz.prog ⟨[.v T23,.v T34],[.bool],false⟩:=genE [⟨_,n96,none,none⟩,⟨_,n97,none,none⟩,⟨_,n55,none,none⟩,⟨_,n98,none,none⟩,⟨_,n99,none,none⟩] 53 _ [.t 4] [⟨28,[(.normal,⟨[(2,.one (.vp 0 0)),(3,.one (.vp 1 0)),(39,.one .b)],[.pk false T23,.pk false T34v],[]⟩,[])],[]⟩,⟨25,[(.normal,⟨[(2,.one (.vp 0 0)),(3,.one (.vp 1 0)),(61,.one .b)],[.pk false T23,.pk false T34v],[]⟩,[])],[]⟩,⟨18,[(.normal,⟨[(2,.one (.vp 0 0)),(3,.one (.vp 1 0)),(80,.one .b)],[.pk false T23,.pk false T34v],[]⟩,[])],[]⟩,⟨13,[(.normal,⟨[(2,.one (.vp 0 0)),(3,.one (.vp 1 0)),(65,.one (.i .i64))],[.pk false T23,.pk false T34v],[]⟩,[]),(.ret,⟨[(4,.one .b)],[],[]⟩,[]),(.exit 0,⟨[(2,.one (.vp 0 0)),(3,.one (.vp 1 0))],[.pk false T23,.pk false T34v],[]⟩,[])],[]⟩,⟨7,[(.normal,⟨[(2,.one (.vp 0 0)),(3,.one (.vp 1 0)),(118,.one .b)],[.pk false T23,.pk false T34v],[]⟩,[])],[]⟩,⟨2,[(.normal,⟨[(2,.one (.vp 0 0)),(3,.one (.vp 1 0)),(85,.one (.i .i64))],[.pk false T23,.pk false T34v],[]⟩,[]),(.ret,⟨[(4,.one .b)],[],[]⟩,[]),(.exit 2,⟨[],[],[]⟩,[])],[]⟩] [] [] mo Tryz.func53 rfl rfl (by kernel_rfl) (by kernel_rfl) (by kernel_rfl) rfl
theorem k53 (a0:Den T23) (a1:Den T34):e53.f (a0,a1)=i_CkpOk (a0,a1):=by kernel_rfl
noncomputable def n53:Ent Tryz.prog ⟨[.v T23,.v T34],[.bool],false⟩:=⟨53,i_CkpOk,fun ⟨a0,a1⟩ y hs h=>e53.ok _ y hs ((k53 a0 a1).trans h)⟩
noncomputable def e100:Ent Tryz.prog ⟨[.v T152],[.bool],false⟩:=genE [⟨_,n55,none,none⟩] 100 _ [.t 2] [] [] [] mo Tryz.func100 rfl rfl (by kernel_rfl) (by kernel_rfl) (by kernel_rfl) rfl
theorem k100 (a0:Den T152):e100.f (a0)=i_ItmOk (a0):=by kernel_rfl
noncomputable def n100:Ent Tryz.prog ⟨[.v T152],[.bool],false⟩:=⟨100,i_ItmOk,fun a0 y hs h=>e100.ok _ y hs ((k100 a0).trans h)⟩
noncomputable def e54:Ent Tryz.prog ⟨[.v (.sl T152)],[.bool],false⟩:=genE [⟨_,n55,none,none⟩,⟨_,n100,none,none⟩] 54 _ [.t 2] [⟨10,[(.normal,⟨[(5,.one (.vp 0 0)),(34,.one .b)],[.pk false T152],[]⟩,[])],[]⟩,⟨5,[(.normal,⟨[(3,.one (.i .i64))],[],[]⟩,[])],[]⟩,⟨2,[(.normal,⟨[(3,.one (.i .i64)),(12,.one (.i .i64))],[],[]⟩,[]),(.ret,⟨[(2,.one .b)],[],[]⟩,[]),(.exit 0,⟨[],[],[]⟩,[])],[]⟩] [] [] mo Tryz.func54 rfl rfl (by kernel_rfl) (by kernel_rfl) (by kernel_rfl) rfl
theorem k54 (a0:Den (.sl T152)):e54.f (a0)=i_LogOk (a0):=by kernel_rfl
noncomputable def n54:Ent Tryz.prog ⟨[.v (.sl T152)],[.bool],false⟩:=⟨54,i_LogOk,fun a0 y hs h=>e54.ok _ y hs ((k54 a0).trans h)⟩
noncomputable def e142:Ent Tryz.prog ⟨[.v T152],[.bool],false⟩:=genE [⟨_,n100,none,none⟩] 142 _ [.t 2] [] [] [] mo Tryz.func142 rfl rfl (by kernel_rfl) (by kernel_rfl) (by kernel_rfl) rfl
theorem k142 (a0:Den T152):e142.f (a0)=i_TskIn_ok_1 (a0):=by kernel_rfl
noncomputable def n142:Ent Tryz.prog ⟨[.v T152],[.bool],false⟩:=⟨142,i_TskIn_ok_1,fun a0 y hs h=>e142.ok _ y hs ((k142 a0).trans h)⟩
noncomputable def e169:Ent Tryz.prog ⟨[.v (.sl T152),.f T152 .bool],[i6],false⟩:=genE [] 169 _ [.t 4] [⟨2,[(.normal,⟨[(8,.one (.i .i64))],[],[]⟩,[]),(.ret,⟨[(4,.one (.i .i64))],[],[]⟩,[]),(.exit 0,⟨[],[],[]⟩,[])],[]⟩] [] [] mo Tryz.func169 rfl rfl (by kernel_rfl) (by kernel_rfl) (by kernel_rfl) rfl
theorem k169 (a0:Den (.sl T152)) (a1:Clo Tryz.prog T152 .bool):e169.f (a0,a1)=g_IndexFunc_ItmItem (a0,a1.p):=by kernel_rfl
noncomputable def n169:Ent Tryz.prog ⟨[.v (.sl T152),.f T152 .bool],[i6],false⟩:=⟨169,fun x=>g_IndexFunc_ItmItem (x.1,x.2.p),fun ⟨a0,a1⟩ y hs h=>e169.ok _ y hs ((k169 a0 a1).trans h)⟩
noncomputable def e143:Ent Tryz.prog ⟨[.v (.sl T152),.f T152 .bool],[.bool],false⟩:=genE [⟨_,n169,none,none⟩] 143 _ [.t 4] [] [] [] mo Tryz.func143 rfl rfl (by kernel_rfl) (by kernel_rfl) (by kernel_rfl) rfl
theorem k143 (a0:Den (.sl T152)) (a1:Clo Tryz.prog T152 .bool):e143.f (a0,a1)=g_ContainsFunc_ItmItem (a0,a1.p):=by kernel_rfl
noncomputable def n143:Ent Tryz.prog ⟨[.v (.sl T152),.f T152 .bool],[.bool],false⟩:=⟨143,fun x=>g_ContainsFunc_ItmItem (x.1,x.2.p),fun ⟨a0,a1⟩ y hs h=>e143.ok _ y hs ((k143 a0 a1).trans h)⟩
noncomputable def e103:Ent Tryz.prog ⟨[.v T136,.v T23],[.bool],false⟩:=genE [⟨_,n142,none,none⟩,⟨_,n136,none,none⟩,⟨_,n143,none,none⟩] 103 _ [.t 4] [] [] [] mo Tryz.func103 rfl rfl (by kernel_rfl) (by kernel_rfl) (by kernel_rfl) rfl
theorem k103 (a0:Den T136) (a1:Den T23):e103.f (a0,a1)=i_TskIn_ok (a0,a1):=by kernel_rfl
noncomputable def n103:Ent Tryz.prog ⟨[.v T136,.v T23],[.bool],false⟩:=⟨103,i_TskIn_ok,fun ⟨a0,a1⟩ y hs h=>e103.ok _ y hs ((k103 a0 a1).trans h)⟩
noncomputable def e102:Ent Tryz.prog ⟨[.v T136,.rp T23],[.bool],false⟩:=genE [⟨_,n103,none,none⟩] 102 _ [.t 3] [] [] [] mo Tryz.func102 rfl rfl (by kernel_rfl) (by kernel_rfl) (by kernel_rfl) rfl
theorem k102 (a0:Den T136) (a1:Den T23):e102.f (a0,a1)=i_TskOk__1 (a0,a1):=by kernel_rfl
noncomputable def n102:Ent Tryz.prog ⟨[.v T136,.rp T23],[.bool],false⟩:=⟨102,i_TskOk__1,fun ⟨a0,a1⟩ y hs h=>e102.ok _ y hs ((k102 a0 a1).trans h)⟩
noncomputable def e117:Ent Tryz.prog ⟨[.v (.sl T136),.f T136 .bool],[i6],false⟩:=genE [] 117 _ [.t 4] [⟨2,[(.normal,⟨[(8,.one (.i .i64))],[],[]⟩,[]),(.ret,⟨[(4,.one (.i .i64))],[],[]⟩,[]),(.exit 0,⟨[],[],[]⟩,[])],[]⟩] [] [] mo Tryz.func117 rfl rfl (by kernel_rfl) (by kernel_rfl) (by kernel_rfl) rfl
theorem k117 (a0:Den (.sl T136)) (a1:Clo Tryz.prog T136 .bool):e117.f (a0,a1)=g_IndexFunc_TskIn (a0,a1.p):=by kernel_rfl
noncomputable def n117:Ent Tryz.prog ⟨[.v (.sl T136),.f T136 .bool],[i6],false⟩:=⟨117,fun x=>g_IndexFunc_TskIn (x.1,x.2.p),fun ⟨a0,a1⟩ y hs h=>e117.ok _ y hs ((k117 a0 a1).trans h)⟩
noncomputable def e69:Ent Tryz.prog ⟨[.v (.sl T136),.f T136 .bool],[.bool],false⟩:=genE [⟨_,n117,none,none⟩] 69 _ [.t 4] [] [] [] mo Tryz.func69 rfl rfl (by kernel_rfl) (by kernel_rfl) (by kernel_rfl) rfl
theorem k69 (a0:Den (.sl T136)) (a1:Clo Tryz.prog T136 .bool):e69.f (a0,a1)=g_ContainsFunc_TskIn (a0,a1.p):=by kernel_rfl
noncomputable def n69:Ent Tryz.prog ⟨[.v (.sl T136),.f T136 .bool],[.bool],false⟩:=⟨69,fun x=>g_ContainsFunc_TskIn (x.1,x.2.p),fun ⟨a0,a1⟩ y hs h=>e69.ok _ y hs ((k69 a0 a1).trans h)⟩
noncomputable def e104:Ent Tryz.prog ⟨[.v T88],[i6],false⟩:=genE [] 104 _ [.t 2] [⟨5,[(.normal,⟨[(3,.one (.i .i64))],[],[]⟩,[])],[]⟩,⟨2,[(.normal,⟨[(3,.one (.i .i64)),(9,.one (.i .i64))],[],[]⟩,[]),(.exit 0,⟨[(3,.one (.i .i64))],[],[]⟩,[])],[]⟩] [] [] mo Tryz.func104 rfl rfl (by kernel_rfl) (by kernel_rfl) (by kernel_rfl) rfl
theorem k104 (a0:Den T88):e104.f (a0)=i_TskHeld (a0):=by kernel_rfl
noncomputable def n104:Ent Tryz.prog ⟨[.v T88],[i6],false⟩:=⟨104,i_TskHeld,fun a0 y hs h=>e104.ok _ y hs ((k104 a0).trans h)⟩
noncomputable def e144:Ent Tryz.prog ⟨[.v T88],[(.sl i6)],false⟩:=genE [] 144 _ [.t 2] [⟨2,[(.normal,⟨[(3,.one (.ref 0)),(9,.one (.i .i64))],[.sl i6],[]⟩,[]),(.exit 0,⟨[(3,.one (.ref 0))],[.sl i6],[]⟩,[])],[]⟩] [i6] [] mo Tryz.func144 rfl rfl (by kernel_rfl) (by kernel_rfl) (by kernel_rfl) rfl
theorem k144 (a0:Den T88):e144.f (a0)=i_TskTask_marks (a0):=by kernel_rfl
noncomputable def n144:Ent Tryz.prog ⟨[.v T88],[(.sl i6)],false⟩:=⟨144,i_TskTask_marks,fun a0 y hs h=>e144.ok _ y hs ((k144 a0).trans h)⟩
noncomputable def e105:Ent Tryz.prog ⟨[.v T88],[i6],false⟩:=genE [⟨_,n144,none,none⟩,⟨_,n135,none,none⟩] 105 _ [.t 2] [] [i6] [] mo Tryz.func105 rfl rfl (by kernel_rfl) (by kernel_rfl) (by kernel_rfl) rfl
theorem k105 (a0:Den T88):e105.f (a0)=i_TskLow (a0):=by kernel_rfl
noncomputable def n105:Ent Tryz.prog ⟨[.v T88],[i6],false⟩:=⟨105,i_TskLow,fun a0 y hs h=>e105.ok _ y hs ((k105 a0).trans h)⟩
noncomputable def e146:Ent Tryz.prog ⟨[.v T164],[.bool],false⟩:=genE [⟨_,n162,none,none⟩,⟨_,n163,none,none⟩,⟨_,n55,none,none⟩,⟨_,n164,none,none⟩] 146 _ [.t 2] [⟨14,[(.normal,⟨[(1,.one (.vp 0 0)),(24,.one .b)],[.pk false T164],[]⟩,[])],[]⟩] [] [] mo Tryz.func146 rfl rfl (by kernel_rfl) (by kernel_rfl) (by kernel_rfl) rfl
theorem k146 (a0:Den T164):e146.f (a0)=i_PanOk (a0):=by kernel_rfl
noncomputable def n146:Ent Tryz.prog ⟨[.v T164],[.bool],false⟩:=⟨146,i_PanOk,fun a0 y hs h=>e146.ok _ y hs ((k146 a0).trans h)⟩
noncomputable def e145:Ent Tryz.prog ⟨[.v T164],[.bool],false⟩:=genE [⟨_,n146,none,none⟩] 145 _ [.t 2] [] [] [] mo Tryz.func145 rfl rfl (by kernel_rfl) (by kernel_rfl) (by kernel_rfl) rfl
theorem k145 (a0:Den T164):e145.f (a0)=i_told__1 (a0):=by kernel_rfl
noncomputable def n145:Ent Tryz.prog ⟨[.v T164],[.bool],false⟩:=⟨145,i_told__1,fun a0 y hs h=>e145.ok _ y hs ((k145 a0).trans h)⟩
noncomputable def e170:Ent Tryz.prog ⟨[.v T152],[.bool],false⟩:=genE [⟨_,n100,none,none⟩] 170 _ [.t 2] [] [] [] mo Tryz.func170 rfl rfl (by kernel_rfl) (by kernel_rfl) (by kernel_rfl) rfl
theorem k170 (a0:Den T152):e170.f (a0)=i_isRec (a0):=by kernel_rfl
noncomputable def n170:Ent Tryz.prog ⟨[.v T152],[.bool],false⟩:=⟨170,i_isRec,fun a0 y hs h=>e170.ok _ y hs ((k170 a0).trans h)⟩
noncomputable def e148:Ent Tryz.prog ⟨[.v T167],[.bool],false⟩:=genE [⟨_,n170,none,none⟩,⟨_,n163,none,none⟩,⟨_,n55,none,none⟩] 148 _ [.t 2] [] [] [] mo Tryz.func148 rfl rfl (by kernel_rfl) (by kernel_rfl) (by kernel_rfl) rfl
theorem k148 (a0:Den T167):e148.f (a0)=i_LatOk (a0):=by kernel_rfl
noncomputable def n148:Ent Tryz.prog ⟨[.v T167],[.bool],false⟩:=⟨148,i_LatOk,fun a0 y hs h=>e148.ok _ y hs ((k148 a0).trans h)⟩
noncomputable def e147:Ent Tryz.prog ⟨[.v T167],[.bool],false⟩:=genE [⟨_,n148,none,none⟩] 147 _ [.t 2] [] [] [] mo Tryz.func147 rfl rfl (by kernel_rfl) (by kernel_rfl) (by kernel_rfl) rfl
theorem k147 (a0:Den T167):e147.f (a0)=i_told__2 (a0):=by kernel_rfl
noncomputable def n147:Ent Tryz.prog ⟨[.v T167],[.bool],false⟩:=⟨147,i_told__2,fun a0 y hs h=>e147.ok _ y hs ((k147 a0).trans h)⟩
noncomputable def e171:Ent Tryz.prog ⟨[.v (.sl T164),.f T164 .bool],[i6],false⟩:=genE [] 171 _ [.t 4] [⟨2,[(.normal,⟨[(8,.one (.i .i64))],[],[]⟩,[]),(.ret,⟨[(4,.one (.i .i64))],[],[]⟩,[]),(.exit 0,⟨[],[],[]⟩,[])],[]⟩] [] [] mo Tryz.func171 rfl rfl (by kernel_rfl) (by kernel_rfl) (by kernel_rfl) rfl
theorem k171 (a0:Den (.sl T164)) (a1:Clo Tryz.prog T164 .bool):e171.f (a0,a1)=g_IndexFunc_PanPane (a0,a1.p):=by kernel_rfl
noncomputable def n171:Ent Tryz.prog ⟨[.v (.sl T164),.f T164 .bool],[i6],false⟩:=⟨171,fun x=>g_IndexFunc_PanPane (x.1,x.2.p),fun ⟨a0,a1⟩ y hs h=>e171.ok _ y hs ((k171 a0 a1).trans h)⟩
noncomputable def e149:Ent Tryz.prog ⟨[.v (.sl T164),.f T164 .bool],[.bool],false⟩:=genE [⟨_,n171,none,none⟩] 149 _ [.t 4] [] [] [] mo Tryz.func149 rfl rfl (by kernel_rfl) (by kernel_rfl) (by kernel_rfl) rfl
theorem k149 (a0:Den (.sl T164)) (a1:Clo Tryz.prog T164 .bool):e149.f (a0,a1)=g_ContainsFunc_PanPane (a0,a1.p):=by kernel_rfl
noncomputable def n149:Ent Tryz.prog ⟨[.v (.sl T164),.f T164 .bool],[.bool],false⟩:=⟨149,fun x=>g_ContainsFunc_PanPane (x.1,x.2.p),fun ⟨a0,a1⟩ y hs h=>e149.ok _ y hs ((k149 a0 a1).trans h)⟩
noncomputable def e172:Ent Tryz.prog ⟨[.v (.sl T167),.f T167 .bool],[i6],false⟩:=genE [] 172 _ [.t 4] [⟨2,[(.normal,⟨[(8,.one (.i .i64))],[],[]⟩,[]),(.ret,⟨[(4,.one (.i .i64))],[],[]⟩,[]),(.exit 0,⟨[],[],[]⟩,[])],[]⟩] [] [] mo Tryz.func172 rfl rfl (by kernel_rfl) (by kernel_rfl) (by kernel_rfl) rfl
theorem k172 (a0:Den (.sl T167)) (a1:Clo Tryz.prog T167 .bool):e172.f (a0,a1)=g_IndexFunc_LatPair (a0,a1.p):=by kernel_rfl
noncomputable def n172:Ent Tryz.prog ⟨[.v (.sl T167),.f T167 .bool],[i6],false⟩:=⟨172,fun x=>g_IndexFunc_LatPair (x.1,x.2.p),fun ⟨a0,a1⟩ y hs h=>e172.ok _ y hs ((k172 a0 a1).trans h)⟩
noncomputable def e150:Ent Tryz.prog ⟨[.v (.sl T167),.f T167 .bool],[.bool],false⟩:=genE [⟨_,n172,none,none⟩] 150 _ [.t 4] [] [] [] mo Tryz.func150 rfl rfl (by kernel_rfl) (by kernel_rfl) (by kernel_rfl) rfl
theorem k150 (a0:Den (.sl T167)) (a1:Clo Tryz.prog T167 .bool):e150.f (a0,a1)=g_ContainsFunc_LatPair (a0,a1.p):=by kernel_rfl
noncomputable def n150:Ent Tryz.prog ⟨[.v (.sl T167),.f T167 .bool],[.bool],false⟩:=⟨150,fun x=>g_ContainsFunc_LatPair (x.1,x.2.p),fun ⟨a0,a1⟩ y hs h=>e150.ok _ y hs ((k150 a0 a1).trans h)⟩
noncomputable def e108:Ent Tryz.prog ⟨[.v (.sl T164),.v (.sl T167),.v i6],[.bool],false⟩:=genE [⟨_,n145,none,none⟩,⟨_,n147,none,none⟩,⟨_,n149,none,none⟩,⟨_,n150,none,none⟩] 108 _ [.t 6] [] [] [] mo Tryz.func108 rfl rfl (by kernel_rfl) (by kernel_rfl) (by kernel_rfl) rfl
theorem k108 (a0:Den (.sl T164)) (a1:Den (.sl T167)) (a2:Den i6):e108.f (a0,a1,a2)=i_told (a0,a1,a2):=by kernel_rfl
noncomputable def n108:Ent Tryz.prog ⟨[.v (.sl T164),.v (.sl T167),.v i6],[.bool],false⟩:=⟨108,i_told,fun ⟨a0,a1,a2⟩ y hs h=>e108.ok _ y hs ((k108 a0 a1 a2).trans h)⟩
noncomputable def e106:Ent Tryz.prog ⟨[.v T86],[.bool],false⟩:=genE [⟨_,n55,none,none⟩,⟨_,n108,none,none⟩] 106 _ [.t 2] [] [] [] mo Tryz.func106 rfl rfl (by kernel_rfl) (by kernel_rfl) (by kernel_rfl) rfl
theorem k106 (a0:Den T86):e106.f (a0)=i_TskTxn_ok (a0):=by kernel_rfl
noncomputable def n106:Ent Tryz.prog ⟨[.v T86],[.bool],false⟩:=⟨106,i_TskTxn_ok,fun a0 y hs h=>e106.ok _ y hs ((k106 a0).trans h)⟩
noncomputable def e56:Ent Tryz.prog ⟨[.v T23,.v T88],[.bool],false⟩:=genE [⟨_,n101,none,none⟩,⟨_,n102,none,none⟩,⟨_,n69,none,none⟩,⟨_,n104,none,none⟩,⟨_,n55,none,none⟩,⟨_,n105,none,none⟩,⟨_,n106,none,none⟩] 56 _ [.t 4] [⟨3,[(.normal,⟨[(3,.one (.vp 0 0)),(23,.one .b)],[.pk false T88v],[]⟩,[])],[]⟩] [] [(3,[2])] mo Tryz.func56 rfl rfl (by kernel_rfl) (by kernel_rfl) (by kernel_rfl) rfl
theorem k56 (a0:Den T23) (a1:Den T88):e56.f (a0,a1)=i_TskOk (a0,a1):=by kernel_rfl
noncomputable def n56:Ent Tryz.prog ⟨[.v T23,.v T88],[.bool],false⟩:=⟨56,i_TskOk,fun ⟨a0,a1⟩ y hs h=>e56.ok _ y hs ((k56 a0 a1).trans h)⟩
noncomputable def e107:Ent Tryz.prog ⟨[.v (.sl T92),.f T92 .bool],[i6],false⟩:=genE [] 107 _ [.t 4] [⟨2,[(.normal,⟨[(8,.one (.i .i64))],[],[]⟩,[]),(.ret,⟨[(4,.one (.i .i64))],[],[]⟩,[]),(.exit 0,⟨[],[],[]⟩,[])],[]⟩] [] [] mo Tryz.func107 rfl rfl (by kernel_rfl) (by kernel_rfl) (by kernel_rfl) rfl
theorem k107 (a0:Den (.sl T92)) (a1:Clo Tryz.prog T92 .bool):e107.f (a0,a1)=g_IndexFunc_FloSink (a0,a1.p):=by kernel_rfl
noncomputable def n107:Ent Tryz.prog ⟨[.v (.sl T92),.f T92 .bool],[i6],false⟩:=⟨107,fun x=>g_IndexFunc_FloSink (x.1,x.2.p),fun ⟨a0,a1⟩ y hs h=>e107.ok _ y hs ((k107 a0 a1).trans h)⟩
noncomputable def e57:Ent Tryz.prog ⟨[.v (.sl T92),.f T92 .bool],[.bool],false⟩:=genE [⟨_,n107,none,none⟩] 57 _ [.t 4] [] [] [] mo Tryz.func57 rfl rfl (by kernel_rfl) (by kernel_rfl) (by kernel_rfl) rfl
theorem k57 (a0:Den (.sl T92)) (a1:Clo Tryz.prog T92 .bool):e57.f (a0,a1)=g_ContainsFunc_FloSink (a0,a1.p):=by kernel_rfl
noncomputable def n57:Ent Tryz.prog ⟨[.v (.sl T92),.f T92 .bool],[.bool],false⟩:=⟨57,fun x=>g_ContainsFunc_FloSink (x.1,x.2.p),fun ⟨a0,a1⟩ y hs h=>e57.ok _ y hs ((k57 a0 a1).trans h)⟩
noncomputable def e59:Ent Tryz.prog ⟨[.v T92],[.bool],false⟩:=genE [⟨_,n106,none,none⟩,⟨_,n55,none,none⟩,⟨_,n108,none,none⟩] 59 _ [.t 2] [⟨8,[(.normal,⟨[(1,.one (.vp 0 0)),(5,.one (.vp 1 0)),(23,.one .b)],[.pk false T92v,.pk false T86v],[]⟩,[])],[]⟩,⟨2,[(.normal,⟨[(1,.one (.vp 0 0)),(3,.one (.i .i64)),(11,.one (.i .i64))],[.pk false T92v],[]⟩,[]),(.ret,⟨[(2,.one .b)],[],[]⟩,[]),(.exit 0,⟨[(1,.one (.vp 0 0))],[.pk false T92v],[]⟩,[])],[]⟩] [] [] mo Tryz.func59 rfl rfl (by kernel_rfl) (by kernel_rfl) (by kernel_rfl) rfl
theorem k59 (a0:Den T92):e59.f (a0)=i_FloSink_ok (a0):=by kernel_rfl
noncomputable def n59:Ent Tryz.prog ⟨[.v T92],[.bool],false⟩:=⟨59,i_FloSink_ok,fun a0 y hs h=>e59.ok _ y hs ((k59 a0).trans h)⟩
noncomputable def e58:Ent Tryz.prog ⟨[.v T92],[.bool],false⟩:=genE [⟨_,n59,none,none⟩] 58 _ [.t 2] [] [] [] mo Tryz.func58 rfl rfl (by kernel_rfl) (by kernel_rfl) (by kernel_rfl) rfl
theorem k58 (a0:Den T92):e58.f (a0)=i_FloOk__1 (a0):=by kernel_rfl
noncomputable def n58:Ent Tryz.prog ⟨[.v T92],[.bool],false⟩:=⟨58,i_FloOk__1,fun a0 y hs h=>e58.ok _ y hs ((k58 a0).trans h)⟩
noncomputable def e24:Ent Tryz.prog ⟨[.v T36],[.bool],false⟩:=genE [⟨_,n53,none,none⟩,⟨_,n54,none,none⟩,⟨_,n55,none,none⟩,⟨_,n56,none,none⟩,⟨_,n57,none,none⟩,⟨_,n58,none,none⟩] 24 _ [.t 2] [⟨25,[(.normal,⟨[(1,.one (.vp 0 0)),(3,.one (.vp 1 0)),(46,.one .b)],[.pk false T36v,.pk false T23],[]⟩,[])],[]⟩,⟨18,[(.normal,⟨[(1,.one (.vp 0 0)),(3,.one (.vp 1 0)),(94,.one .b)],[.pk false T36v,.pk false T23],[]⟩,[])],[]⟩,⟨13,[(.normal,⟨[(1,.one (.vp 0 0)),(3,.one (.vp 1 0)),(50,.one (.i .i64))],[.pk false T36v,.pk false T23],[]⟩,[]),(.ret,⟨[(2,.one .b)],[],[]⟩,[]),(.exit 0,⟨[(1,.one (.vp 0 0)),(3,.one (.vp 1 0))],[.pk false T36v,.pk false T23],[]⟩,[])],[]⟩,⟨7,[(.normal,⟨[(1,.one (.vp 0 0)),(3,.one (.vp 1 0)),(114,.one .b)],[.pk false T36v,.pk false T23],[]⟩,[])],[]⟩,⟨2,[(.normal,⟨[(1,.one (.vp 0 0)),(3,.one (.vp 1 0)),(99,.one (.i .i64))],[.pk false T36v,.pk false T23],[]⟩,[]),(.ret,⟨[(2,.one .b)],[],[]⟩,[]),(.exit 2,⟨[(1,.one (.vp 0 0))],[.pk false T36v],[]⟩,[])],[]⟩] [] [] mo Tryz.func24 rfl rfl (by kernel_rfl) (by kernel_rfl) (by kernel_rfl) rfl
theorem k24 (a0:Den T36):e24.f (a0)=i_FloOk (a0):=by kernel_rfl
noncomputable def n24:Ent Tryz.prog ⟨[.v T36],[.bool],false⟩:=⟨24,i_FloOk,fun a0 y hs h=>e24.ok _ y hs ((k24 a0).trans h)⟩
noncomputable def e68:Ent Tryz.prog ⟨[.v T136],[.bool],false⟩:=genE [] 68 _ [.t 2] [] [] [] mo Tryz.func68 rfl rfl (by kernel_rfl) (by kernel_rfl) (by kernel_rfl) rfl
theorem k68 (a0:Den T136):e68.f (a0)=i_FloFlow_done_1 (a0):=by kernel_rfl
noncomputable def n68:Ent Tryz.prog ⟨[.v T136],[.bool],false⟩:=⟨68,i_FloFlow_done_1,fun a0 y hs h=>e68.ok _ y hs ((k68 a0).trans h)⟩
noncomputable def e32:Ent Tryz.prog ⟨[.v T36],[.bool],false⟩:=genE [⟨_,n68,none,none⟩,⟨_,n69,none,none⟩] 32 _ [.t 2] [⟨22,[(.normal,⟨[(1,.one (.vp 0 0)),(39,.one .b)],[.pk false T36v],[]⟩,[])],[]⟩,⟨17,[(.normal,⟨[(1,.one (.vp 0 0)),(14,.one (.i .i64))],[.pk false T36v],[]⟩,[]),(.ret,⟨[(2,.one .b)],[],[]⟩,[]),(.exit 0,⟨[(1,.one (.vp 0 0))],[.pk false T36v],[]⟩,[])],[]⟩,⟨10,[(.normal,⟨[(1,.one (.vp 0 0)),(7,.one (.vp 1 0)),(70,.one .b)],[.pk false T36v,.pk false T88v],[]⟩,[])],[]⟩,⟨4,[(.ret,⟨[(2,.one .b)],[],[]⟩,[]),(.normal,⟨[(1,.one (.vp 0 0))],[.pk false T36v],[]⟩,[])],[]⟩,⟨2,[(.normal,⟨[(1,.one (.vp 0 0)),(44,.one (.i .i64))],[.pk false T36v],[]⟩,[]),(.ret,⟨[(2,.one .b)],[],[]⟩,[]),(.exit 2,⟨[],[],[]⟩,[])],[]⟩] [] [] mo Tryz.func32 rfl rfl (by kernel_rfl) (by kernel_rfl) (by kernel_rfl) rfl
theorem k32 (a0:Den T36):e32.f (a0)=i_FloFlow_done (a0):=by kernel_rfl
noncomputable def n32:Ent Tryz.prog ⟨[.v T36],[.bool],false⟩:=⟨32,i_FloFlow_done,fun a0 y hs h=>e32.ok _ y hs ((k32 a0).trans h)⟩
noncomputable def e11:Ent Tryz.prog ⟨[.v T36],[.bool],false⟩:=genE [⟨_,n24,none,none⟩,⟨_,n32,none,none⟩] 11 _ [.t 2] [] [] [] mo Tryz.func11 rfl rfl (by kernel_rfl) (by kernel_rfl) (by kernel_rfl) rfl
theorem k11 (a0:Den T36):e11.f (a0)=i_FloDone (a0):=by kernel_rfl
noncomputable def n11:Ent Tryz.prog ⟨[.v T36],[.bool],false⟩:=⟨11,i_FloDone,fun a0 y hs h=>e11.ok _ y hs ((k11 a0).trans h)⟩
noncomputable def e25:Ent Tryz.prog ⟨[.v T23,.v T23],[.bool],false⟩:=genE [] 25 _ [.t 4] [] [] [] mo Tryz.func25 rfl rfl (by kernel_rfl) (by kernel_rfl) (by kernel_rfl) rfl
theorem k25 (a0:Den T23) (a1:Den T23):e25.f (a0,a1)=l_eqJobJob (a0,a1):=by kernel_rfl
noncomputable def n25:Ent Tryz.prog ⟨[.v T23,.v T23],[.bool],false⟩:=⟨25,l_eqJobJob,fun ⟨a0,a1⟩ y hs h=>e25.ok _ y hs ((k25 a0 a1).trans h)⟩
noncomputable def e109:Ent Tryz.prog ⟨[.v T152,.v T152],[.bool],false⟩:=genE [] 109 _ [.t 4] [] [] [] mo Tryz.func109 rfl rfl (by kernel_rfl) (by kernel_rfl) (by kernel_rfl) rfl
theorem k109 (a0:Den T152) (a1:Den T152):e109.f (a0,a1)=l_eqItmItem (a0,a1):=by kernel_rfl
noncomputable def n109:Ent Tryz.prog ⟨[.v T152,.v T152],[.bool],false⟩:=⟨109,l_eqItmItem,fun ⟨a0,a1⟩ y hs h=>e109.ok _ y hs ((k109 a0 a1).trans h)⟩
noncomputable def e60:Ent Tryz.prog ⟨[.v (.sl T152),.v (.sl T152)],[.bool],false⟩:=genE [⟨_,n109,none,none⟩] 60 _ [.t 4] [⟨2,[(.normal,⟨[(5,.one (.i .i64))],[],[]⟩,[]),(.ret,⟨[(4,.one .b)],[],[]⟩,[]),(.exit 0,⟨[],[],[]⟩,[])],[]⟩] [] [] mo Tryz.func60 rfl rfl (by kernel_rfl) (by kernel_rfl) (by kernel_rfl) rfl
theorem k60 (a0:Den (.sl T152)) (a1:Den (.sl T152)):e60.f (a0,a1)=l_eqItmItemS (a0,a1):=by kernel_rfl
noncomputable def n60:Ent Tryz.prog ⟨[.v (.sl T152),.v (.sl T152)],[.bool],false⟩:=⟨60,l_eqItmItemS,fun ⟨a0,a1⟩ y hs h=>e60.ok _ y hs ((k60 a0 a1).trans h)⟩
noncomputable def e26:Ent Tryz.prog ⟨[.v (.sl (.sl T152)),.v (.sl (.sl T152))],[.bool],false⟩:=genE [⟨_,n60,none,none⟩] 26 _ [.t 4] [⟨2,[(.normal,⟨[(5,.one (.i .i64))],[],[]⟩,[]),(.ret,⟨[(4,.one .b)],[],[]⟩,[]),(.exit 0,⟨[],[],[]⟩,[])],[]⟩] [] [] mo Tryz.func26 rfl rfl (by kernel_rfl) (by kernel_rfl) (by kernel_rfl) rfl
theorem k26 (a0:Den (.sl (.sl T152))) (a1:Den (.sl (.sl T152))):e26.f (a0,a1)=l_eqItmItemSS (a0,a1):=by kernel_rfl
noncomputable def n26:Ent Tryz.prog ⟨[.v (.sl (.sl T152)),.v (.sl (.sl T152))],[.bool],false⟩:=⟨26,l_eqItmItemSS,fun ⟨a0,a1⟩ y hs h=>e26.ok _ y hs ((k26 a0 a1).trans h)⟩
noncomputable def e61:Ent Tryz.prog ⟨[.v T62,.v T62],[.bool],false⟩:=genE [] 61 _ [.t 4] [] [] [] mo Tryz.func61 rfl rfl (by kernel_rfl) (by kernel_rfl) (by kernel_rfl) rfl
theorem k61 (a0:Den T62) (a1:Den T62):e61.f (a0,a1)=l_eqFloSrc (a0,a1):=by kernel_rfl
noncomputable def n61:Ent Tryz.prog ⟨[.v T62,.v T62],[.bool],false⟩:=⟨61,l_eqFloSrc,fun ⟨a0,a1⟩ y hs h=>e61.ok _ y hs ((k61 a0 a1).trans h)⟩
noncomputable def e27:Ent Tryz.prog ⟨[.v (.sl T62),.v (.sl T62)],[.bool],false⟩:=genE [⟨_,n61,none,none⟩] 27 _ [.t 4] [⟨2,[(.normal,⟨[(5,.one (.i .i64))],[],[]⟩,[]),(.ret,⟨[(4,.one .b)],[],[]⟩,[]),(.exit 0,⟨[],[],[]⟩,[])],[]⟩] [] [] mo Tryz.func27 rfl rfl (by kernel_rfl) (by kernel_rfl) (by kernel_rfl) rfl
theorem k27 (a0:Den (.sl T62)) (a1:Den (.sl T62)):e27.f (a0,a1)=l_eqFloSrcS (a0,a1):=by kernel_rfl
noncomputable def n27:Ent Tryz.prog ⟨[.v (.sl T62),.v (.sl T62)],[.bool],false⟩:=⟨27,l_eqFloSrcS,fun ⟨a0,a1⟩ y hs h=>e27.ok _ y hs ((k27 a0 a1).trans h)⟩
noncomputable def e151:Ent Tryz.prog ⟨[.v T136,.v T136],[.bool],false⟩:=genE [⟨_,n60,none,none⟩] 151 _ [.t 4] [] [] [] mo Tryz.func151 rfl rfl (by kernel_rfl) (by kernel_rfl) (by kernel_rfl) rfl
theorem k151 (a0:Den T136) (a1:Den T136):e151.f (a0,a1)=l_eqTskIn (a0,a1):=by kernel_rfl
noncomputable def n151:Ent Tryz.prog ⟨[.v T136,.v T136],[.bool],false⟩:=⟨151,l_eqTskIn,fun ⟨a0,a1⟩ y hs h=>e151.ok _ y hs ((k151 a0 a1).trans h)⟩
noncomputable def e110:Ent Tryz.prog ⟨[.v (.sl T136),.v (.sl T136)],[.bool],false⟩:=genE [⟨_,n151,none,none⟩] 110 _ [.t 4] [⟨2,[(.normal,⟨[(5,.one (.i .i64))],[],[]⟩,[]),(.ret,⟨[(4,.one .b)],[],[]⟩,[]),(.exit 0,⟨[],[],[]⟩,[])],[]⟩] [] [] mo Tryz.func110 rfl rfl (by kernel_rfl) (by kernel_rfl) (by kernel_rfl) rfl
theorem k110 (a0:Den (.sl T136)) (a1:Den (.sl T136)):e110.f (a0,a1)=l_eqTskInS (a0,a1):=by kernel_rfl
noncomputable def n110:Ent Tryz.prog ⟨[.v (.sl T136),.v (.sl T136)],[.bool],false⟩:=⟨110,l_eqTskInS,fun ⟨a0,a1⟩ y hs h=>e110.ok _ y hs ((k110 a0 a1).trans h)⟩
noncomputable def e174:Ent Tryz.prog ⟨[.v T62,.v T62],[.bool],false⟩:=genE [] 174 _ [.t 4] [] [] [] mo Tryz.func174 rfl rfl (by kernel_rfl) (by kernel_rfl) (by kernel_rfl) rfl
theorem k174 (a0:Den T62) (a1:Den T62):e174.f (a0,a1)=l_eqWinWin (a0,a1):=by kernel_rfl
noncomputable def n174:Ent Tryz.prog ⟨[.v T62,.v T62],[.bool],false⟩:=⟨174,l_eqWinWin,fun ⟨a0,a1⟩ y hs h=>e174.ok _ y hs ((k174 a0 a1).trans h)⟩
noncomputable def e175:Ent Tryz.prog ⟨[.v T162,.v T162],[.bool],false⟩:=genE [] 175 _ [.t 4] [] [] [] mo Tryz.func175 rfl rfl (by kernel_rfl) (by kernel_rfl) (by kernel_rfl) rfl
theorem k175 (a0:Den T162) (a1:Den T162):e175.f (a0,a1)=l_eqAggAgg (a0,a1):=by kernel_rfl
noncomputable def n175:Ent Tryz.prog ⟨[.v T162,.v T162],[.bool],false⟩:=⟨175,l_eqAggAgg,fun ⟨a0,a1⟩ y hs h=>e175.ok _ y hs ((k175 a0 a1).trans h)⟩
noncomputable def e173:Ent Tryz.prog ⟨[.v T193,.v T193],[.bool],false⟩:=genE [⟨_,n174,none,none⟩,⟨_,n175,none,none⟩] 173 _ [.t 4] [] [] [] mo Tryz.func173 rfl rfl (by kernel_rfl) (by kernel_rfl) (by kernel_rfl) rfl
theorem k173 (a0:Den T193) (a1:Den T193):e173.f (a0,a1)=l_eqOpRow (a0,a1):=by kernel_rfl
noncomputable def n173:Ent Tryz.prog ⟨[.v T193,.v T193],[.bool],false⟩:=⟨173,l_eqOpRow,fun ⟨a0,a1⟩ y hs h=>e173.ok _ y hs ((k173 a0 a1).trans h)⟩
noncomputable def e152:Ent Tryz.prog ⟨[.v (.sl T193),.v (.sl T193)],[.bool],false⟩:=genE [⟨_,n173,none,none⟩] 152 _ [.t 4] [⟨2,[(.normal,⟨[(5,.one (.i .i64))],[],[]⟩,[]),(.ret,⟨[(4,.one .b)],[],[]⟩,[]),(.exit 0,⟨[],[],[]⟩,[])],[]⟩] [] [] mo Tryz.func152 rfl rfl (by kernel_rfl) (by kernel_rfl) (by kernel_rfl) rfl
theorem k152 (a0:Den (.sl T193)) (a1:Den (.sl T193)):e152.f (a0,a1)=l_eqOpRowS (a0,a1):=by kernel_rfl
noncomputable def n152:Ent Tryz.prog ⟨[.v (.sl T193),.v (.sl T193)],[.bool],false⟩:=⟨152,l_eqOpRowS,fun ⟨a0,a1⟩ y hs h=>e152.ok _ y hs ((k152 a0 a1).trans h)⟩
noncomputable def e111:Ent Tryz.prog ⟨[.v T82,.v T82],[.bool],false⟩:=genE [⟨_,n152,none,none⟩] 111 _ [.t 4] [] [] [] mo Tryz.func111 rfl rfl (by kernel_rfl) (by kernel_rfl) (by kernel_rfl) rfl
theorem k111 (a0:Den T82) (a1:Den T82):e111.f (a0,a1)=l_eqOpState (a0,a1):=by kernel_rfl
noncomputable def n111:Ent Tryz.prog ⟨[.v T82,.v T82],[.bool],false⟩:=⟨111,l_eqOpState,fun ⟨a0,a1⟩ y hs h=>e111.ok _ y hs ((k111 a0 a1).trans h)⟩
noncomputable def e153:Ent Tryz.prog ⟨[.v T164,.v T164],[.bool],false⟩:=genE [⟨_,n174,none,none⟩,⟨_,n175,none,none⟩] 153 _ [.t 4] [] [] [] mo Tryz.func153 rfl rfl (by kernel_rfl) (by kernel_rfl) (by kernel_rfl) rfl
theorem k153 (a0:Den T164) (a1:Den T164):e153.f (a0,a1)=l_eqPanPane (a0,a1):=by kernel_rfl
noncomputable def n153:Ent Tryz.prog ⟨[.v T164,.v T164],[.bool],false⟩:=⟨153,l_eqPanPane,fun ⟨a0,a1⟩ y hs h=>e153.ok _ y hs ((k153 a0 a1).trans h)⟩
noncomputable def e114:Ent Tryz.prog ⟨[.v (.sl T164),.v (.sl T164)],[.bool],false⟩:=genE [⟨_,n153,none,none⟩] 114 _ [.t 4] [⟨2,[(.normal,⟨[(5,.one (.i .i64))],[],[]⟩,[]),(.ret,⟨[(4,.one .b)],[],[]⟩,[]),(.exit 0,⟨[],[],[]⟩,[])],[]⟩] [] [] mo Tryz.func114 rfl rfl (by kernel_rfl) (by kernel_rfl) (by kernel_rfl) rfl
theorem k114 (a0:Den (.sl T164)) (a1:Den (.sl T164)):e114.f (a0,a1)=l_eqPanPaneS (a0,a1):=by kernel_rfl
noncomputable def n114:Ent Tryz.prog ⟨[.v (.sl T164),.v (.sl T164)],[.bool],false⟩:=⟨114,l_eqPanPaneS,fun ⟨a0,a1⟩ y hs h=>e114.ok _ y hs ((k114 a0 a1).trans h)⟩
noncomputable def e154:Ent Tryz.prog ⟨[.v T167,.v T167],[.bool],false⟩:=genE [⟨_,n109,none,none⟩,⟨_,n174,none,none⟩] 154 _ [.t 4] [] [] [] mo Tryz.func154 rfl rfl (by kernel_rfl) (by kernel_rfl) (by kernel_rfl) rfl
theorem k154 (a0:Den T167) (a1:Den T167):e154.f (a0,a1)=l_eqLatPair (a0,a1):=by kernel_rfl
noncomputable def n154:Ent Tryz.prog ⟨[.v T167,.v T167],[.bool],false⟩:=⟨154,l_eqLatPair,fun ⟨a0,a1⟩ y hs h=>e154.ok _ y hs ((k154 a0 a1).trans h)⟩
noncomputable def e115:Ent Tryz.prog ⟨[.v (.sl T167),.v (.sl T167)],[.bool],false⟩:=genE [⟨_,n154,none,none⟩] 115 _ [.t 4] [⟨2,[(.normal,⟨[(5,.one (.i .i64))],[],[]⟩,[]),(.ret,⟨[(4,.one .b)],[],[]⟩,[]),(.exit 0,⟨[],[],[]⟩,[])],[]⟩] [] [] mo Tryz.func115 rfl rfl (by kernel_rfl) (by kernel_rfl) (by kernel_rfl) rfl
theorem k115 (a0:Den (.sl T167)) (a1:Den (.sl T167)):e115.f (a0,a1)=l_eqLatPairS (a0,a1):=by kernel_rfl
noncomputable def n115:Ent Tryz.prog ⟨[.v (.sl T167),.v (.sl T167)],[.bool],false⟩:=⟨115,l_eqLatPairS,fun ⟨a0,a1⟩ y hs h=>e115.ok _ y hs ((k115 a0 a1).trans h)⟩
noncomputable def e112:Ent Tryz.prog ⟨[.v T86,.v T86],[.bool],false⟩:=genE [⟨_,n114,none,none⟩,⟨_,n115,none,none⟩] 112 _ [.t 4] [] [] [] mo Tryz.func112 rfl rfl (by kernel_rfl) (by kernel_rfl) (by kernel_rfl) rfl
theorem k112 (a0:Den T86) (a1:Den T86):e112.f (a0,a1)=l_eqTskTxn (a0,a1):=by kernel_rfl
noncomputable def n112:Ent Tryz.prog ⟨[.v T86,.v T86],[.bool],false⟩:=⟨112,l_eqTskTxn,fun ⟨a0,a1⟩ y hs h=>e112.ok _ y hs ((k112 a0 a1).trans h)⟩
noncomputable def e62:Ent Tryz.prog ⟨[.v T88,.v T88],[.bool],false⟩:=genE [⟨_,n110,none,none⟩,⟨_,n111,none,none⟩,⟨_,n112,none,none⟩] 62 _ [.t 4] [] [] [] mo Tryz.func62 rfl rfl (by kernel_rfl) (by kernel_rfl) (by kernel_rfl) rfl
theorem k62 (a0:Den T88) (a1:Den T88):e62.f (a0,a1)=l_eqTskTask (a0,a1):=by kernel_rfl
noncomputable def n62:Ent Tryz.prog ⟨[.v T88,.v T88],[.bool],false⟩:=⟨62,l_eqTskTask,fun ⟨a0,a1⟩ y hs h=>e62.ok _ y hs ((k62 a0 a1).trans h)⟩
noncomputable def e28:Ent Tryz.prog ⟨[.v (.sl T88),.v (.sl T88)],[.bool],false⟩:=genE [⟨_,n62,none,none⟩] 28 _ [.t 4] [⟨2,[(.normal,⟨[(5,.one (.i .i64))],[],[]⟩,[]),(.ret,⟨[(4,.one .b)],[],[]⟩,[]),(.exit 0,⟨[],[],[]⟩,[])],[]⟩] [] [] mo Tryz.func28 rfl rfl (by kernel_rfl) (by kernel_rfl) (by kernel_rfl) rfl
theorem k28 (a0:Den (.sl T88)) (a1:Den (.sl T88)):e28.f (a0,a1)=l_eqTskTaskS (a0,a1):=by kernel_rfl
noncomputable def n28:Ent Tryz.prog ⟨[.v (.sl T88),.v (.sl T88)],[.bool],false⟩:=⟨28,l_eqTskTaskS,fun ⟨a0,a1⟩ y hs h=>e28.ok _ y hs ((k28 a0 a1).trans h)⟩
noncomputable def e113:Ent Tryz.prog ⟨[.v (.sl T86),.v (.sl T86)],[.bool],false⟩:=genE [⟨_,n112,none,none⟩] 113 _ [.t 4] [⟨2,[(.normal,⟨[(5,.one (.i .i64))],[],[]⟩,[]),(.ret,⟨[(4,.one .b)],[],[]⟩,[]),(.exit 0,⟨[],[],[]⟩,[])],[]⟩] [] [] mo Tryz.func113 rfl rfl (by kernel_rfl) (by kernel_rfl) (by kernel_rfl) rfl
theorem k113 (a0:Den (.sl T86)) (a1:Den (.sl T86)):e113.f (a0,a1)=l_eqTskTxnS (a0,a1):=by kernel_rfl
noncomputable def n113:Ent Tryz.prog ⟨[.v (.sl T86),.v (.sl T86)],[.bool],false⟩:=⟨113,l_eqTskTxnS,fun ⟨a0,a1⟩ y hs h=>e113.ok _ y hs ((k113 a0 a1).trans h)⟩
noncomputable def e63:Ent Tryz.prog ⟨[.v T92,.v T92],[.bool],false⟩:=genE [⟨_,n113,none,none⟩,⟨_,n114,none,none⟩,⟨_,n115,none,none⟩] 63 _ [.t 4] [] [] [] mo Tryz.func63 rfl rfl (by kernel_rfl) (by kernel_rfl) (by kernel_rfl) rfl
theorem k63 (a0:Den T92) (a1:Den T92):e63.f (a0,a1)=l_eqFloSink (a0,a1):=by kernel_rfl
noncomputable def n63:Ent Tryz.prog ⟨[.v T92,.v T92],[.bool],false⟩:=⟨63,l_eqFloSink,fun ⟨a0,a1⟩ y hs h=>e63.ok _ y hs ((k63 a0 a1).trans h)⟩
noncomputable def e29:Ent Tryz.prog ⟨[.v (.sl T92),.v (.sl T92)],[.bool],false⟩:=genE [⟨_,n63,none,none⟩] 29 _ [.t 4] [⟨2,[(.normal,⟨[(5,.one (.i .i64))],[],[]⟩,[]),(.ret,⟨[(4,.one .b)],[],[]⟩,[]),(.exit 0,⟨[],[],[]⟩,[])],[]⟩] [] [] mo Tryz.func29 rfl rfl (by kernel_rfl) (by kernel_rfl) (by kernel_rfl) rfl
theorem k29 (a0:Den (.sl T92)) (a1:Den (.sl T92)):e29.f (a0,a1)=l_eqFloSinkS (a0,a1):=by kernel_rfl
noncomputable def n29:Ent Tryz.prog ⟨[.v (.sl T92),.v (.sl T92)],[.bool],false⟩:=⟨29,l_eqFloSinkS,fun ⟨a0,a1⟩ y hs h=>e29.ok _ y hs ((k29 a0 a1).trans h)⟩
noncomputable def e64:Ent Tryz.prog ⟨[.v (.sl i6),.v (.sl i6)],[.bool],false⟩:=genE [] 64 _ [.t 4] [⟨2,[(.normal,⟨[(5,.one (.i .i64))],[],[]⟩,[]),(.ret,⟨[(4,.one .b)],[],[]⟩,[]),(.exit 0,⟨[],[],[]⟩,[])],[]⟩] [] [] mo Tryz.func64 rfl rfl (by kernel_rfl) (by kernel_rfl) (by kernel_rfl) rfl
theorem k64 (a0:Den (.sl i6)) (a1:Den (.sl i6)):e64.f (a0,a1)=l_eqIntS (a0,a1):=by kernel_rfl
noncomputable def n64:Ent Tryz.prog ⟨[.v (.sl i6),.v (.sl i6)],[.bool],false⟩:=⟨64,l_eqIntS,fun ⟨a0,a1⟩ y hs h=>e64.ok _ y hs ((k64 a0 a1).trans h)⟩
noncomputable def e65:Ent Tryz.prog ⟨[.v (.sl .bool),.v (.sl .bool)],[.bool],false⟩:=genE [] 65 _ [.t 4] [⟨2,[(.normal,⟨[(5,.one (.i .i64))],[],[]⟩,[]),(.ret,⟨[(4,.one .b)],[],[]⟩,[]),(.exit 0,⟨[],[],[]⟩,[])],[]⟩] [] [] mo Tryz.func65 rfl rfl (by kernel_rfl) (by kernel_rfl) (by kernel_rfl) rfl
theorem k65 (a0:Den (.sl .bool)) (a1:Den (.sl .bool)):e65.f (a0,a1)=l_eqBoolS (a0,a1):=by kernel_rfl
noncomputable def n65:Ent Tryz.prog ⟨[.v (.sl .bool),.v (.sl .bool)],[.bool],false⟩:=⟨65,l_eqBoolS,fun ⟨a0,a1⟩ y hs h=>e65.ok _ y hs ((k65 a0 a1).trans h)⟩
noncomputable def e116:Ent Tryz.prog ⟨[.v T134,.v T134],[.bool],false⟩:=genE [⟨_,n111,none,none⟩,⟨_,n64,none,none⟩] 116 _ [.t 4] [] [] [] mo Tryz.func116 rfl rfl (by kernel_rfl) (by kernel_rfl) (by kernel_rfl) rfl
theorem k116 (a0:Den T134) (a1:Den T134):e116.f (a0,a1)=l_eqCkpSnap (a0,a1):=by kernel_rfl
noncomputable def n116:Ent Tryz.prog ⟨[.v T134,.v T134],[.bool],false⟩:=⟨116,l_eqCkpSnap,fun ⟨a0,a1⟩ y hs h=>e116.ok _ y hs ((k116 a0 a1).trans h)⟩
noncomputable def e66:Ent Tryz.prog ⟨[.v (.sl T134),.v (.sl T134)],[.bool],false⟩:=genE [⟨_,n116,none,none⟩] 66 _ [.t 4] [⟨2,[(.normal,⟨[(5,.one (.i .i64))],[],[]⟩,[]),(.ret,⟨[(4,.one .b)],[],[]⟩,[]),(.exit 0,⟨[],[],[]⟩,[])],[]⟩] [] [] mo Tryz.func66 rfl rfl (by kernel_rfl) (by kernel_rfl) (by kernel_rfl) rfl
theorem k66 (a0:Den (.sl T134)) (a1:Den (.sl T134)):e66.f (a0,a1)=l_eqCkpSnapS (a0,a1):=by kernel_rfl
noncomputable def n66:Ent Tryz.prog ⟨[.v (.sl T134),.v (.sl T134)],[.bool],false⟩:=⟨66,l_eqCkpSnapS,fun ⟨a0,a1⟩ y hs h=>e66.ok _ y hs ((k66 a0 a1).trans h)⟩
noncomputable def e67:Ent Tryz.prog ⟨[.v T32,.v T32],[.bool],false⟩:=genE [⟨_,n64,none,none⟩,⟨_,n66,none,none⟩] 67 _ [.t 4] [] [] [] mo Tryz.func67 rfl rfl (by kernel_rfl) (by kernel_rfl) (by kernel_rfl) rfl
theorem k67 (a0:Den T32) (a1:Den T32):e67.f (a0,a1)=l_eqCkpSafe (a0,a1):=by kernel_rfl
noncomputable def n67:Ent Tryz.prog ⟨[.v T32,.v T32],[.bool],false⟩:=⟨67,l_eqCkpSafe,fun ⟨a0,a1⟩ y hs h=>e67.ok _ y hs ((k67 a0 a1).trans h)⟩
noncomputable def e30:Ent Tryz.prog ⟨[.v T34,.v T34],[.bool],false⟩:=genE [⟨_,n64,none,none⟩,⟨_,n65,none,none⟩,⟨_,n66,none,none⟩,⟨_,n67,none,none⟩] 30 _ [.t 4] [] [] [] mo Tryz.func30 rfl rfl (by kernel_rfl) (by kernel_rfl) (by kernel_rfl) rfl
theorem k30 (a0:Den T34) (a1:Den T34):e30.f (a0,a1)=l_eqCkpState (a0,a1):=by kernel_rfl
noncomputable def n30:Ent Tryz.prog ⟨[.v T34,.v T34],[.bool],false⟩:=⟨30,l_eqCkpState,fun ⟨a0,a1⟩ y hs h=>e30.ok _ y hs ((k30 a0 a1).trans h)⟩
noncomputable def e9:Ent Tryz.prog ⟨[.v T36,.v T36],[.bool],false⟩:=genE [⟨_,n25,none,none⟩,⟨_,n26,none,none⟩,⟨_,n27,none,none⟩,⟨_,n28,none,none⟩,⟨_,n29,none,none⟩,⟨_,n30,none,none⟩] 9 _ [.t 4] [] [] [] mo Tryz.func9 rfl rfl (by kernel_rfl) (by kernel_rfl) (by kernel_rfl) rfl
theorem k9 (a0:Den T36) (a1:Den T36):e9.f (a0,a1)=l_eqFloFlow (a0,a1):=by kernel_rfl
noncomputable def n9:Ent Tryz.prog ⟨[.v T36,.v T36],[.bool],false⟩:=⟨9,l_eqFloFlow,fun ⟨a0,a1⟩ y hs h=>e9.ok _ y hs ((k9 a0 a1).trans h)⟩
noncomputable def e4:Ent Tryz.prog ⟨[.v T36],[.bool],false⟩:=genE [⟨_,n5,none,none⟩,⟨_,n7,none,none⟩,⟨_,n10,none,none⟩,⟨_,n11,none,none⟩,⟨_,n9,none,none⟩] 4 _ [.t 2] [] [] [] mo Tryz.func4 rfl rfl (by kernel_rfl) (by kernel_rfl) (by kernel_rfl) rfl
theorem k4 (a0:Den T36):e4.f (a0)=l_FnExactFloDone (a0):=by kernel_rfl
noncomputable def n4:Ent Tryz.prog ⟨[.v T36],[.bool],false⟩:=⟨4,l_FnExactFloDone,fun a0 y hs h=>e4.ok _ y hs ((k4 a0).trans h)⟩
end Go.Proofs.YtjebjgahkakepaaGreatA.AS
