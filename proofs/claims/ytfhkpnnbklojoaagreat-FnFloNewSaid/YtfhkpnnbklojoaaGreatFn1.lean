/- A part of the proof that FnFloNew holds: that the functions of the program compute the plain ones. -/
import Derived.Test.YtfhkpnnbklojoaaGreatPu1
import Derived.Deep.LoopGhost
import Derived.Lib.SliceRun
import Derived.Lib.Walk
import Derived.Test.YtfhkpnnbklojoaaGreatProg
import Derived.WalkKit
set_option linter.unusedVariables false
set_option linter.unusedSimpArgs false
set_option maxRecDepth 100000
namespace Go.Proofs.YtfhkpnnbklojoaaGreatA.AS
open Go.Proofs Go.RowKit Go.Lib
theorem mo : Tryz.prog.follows .mixedOrders = true := by kernel_rfl
abbrev i6 : Ty := .int .i64
abbrev T122 : Ty := (.pr (.vw (.int .u8)) i6)
abbrev T56 : Ty := (.pr i6 i6)
abbrev T24 : Ty := (.pr i6 (.pr i6 (.pr i6 (.pr i6 (.pr i6 (.pr i6 (.pr i6 (.pr .bool T56))))))))
abbrev T189 : Ty := (.pr i6 T56)
abbrev T58 : Ty := (.pr i6 T189)
abbrev T124 : Ty := (.pr i6 T58)
abbrev T163 : Ty := (.pr i6 (.pr T56 (.pr T58 (.pr T58 (.pr i6 .bool)))))
abbrev T85 : Ty := (.pr i6 (.sl T163))
abbrev T119 : Ty := (.pr T85 (.sl i6))
abbrev T35 : Ty := (.pr i6 (.pr (.sl i6) (.sl T119)))
abbrev T37 : Ty := (.pr i6 (.pr .bool (.pr (.sl i6) (.pr (.sl .bool) (.pr (.sl T119) T35)))))
abbrev T85v : Ty := (.pr i6 (.vw T163))
abbrev T135 : Ty := (.pr (.sl T124) (.pr i6 .bool))
abbrev T60 : Ty := (.pr i6 (.pr T56 (.pr i6 T124)))
abbrev T176 : Ty := (.pr T124 T56)
abbrev T87 : Ty := (.pr i6 (.pr (.sl T60) (.sl T176)))
abbrev T89 : Ty := (.pr (.sl T135) (.pr T85 (.pr i6 T87)))
abbrev T97 : Ty := (.pr (.sl T87) T87)
abbrev T39 : Ty := (.pr T24 (.pr (.sl (.sl T124)) (.pr (.sl T56) (.pr (.sl T89) (.pr (.sl T97) T37)))))
abbrev T87v : Ty := (.pr i6 (.pr (.vw T60) (.vw T176)))
abbrev T97s : Ty := (.pr (.sl T87v) T87)
abbrev T39s : Ty := (.pr T24 (.pr (.sl (.sl T124)) (.pr (.sl T56) (.pr (.sl T89) (.pr (.sl T97s) T37)))))
abbrev T35v : Ty := (.pr i6 (.pr (.vw i6) (.vw T119)))
abbrev T37v : Ty := (.pr i6 (.pr .bool (.pr (.vw i6) (.pr (.vw .bool) (.pr (.vw T119) T35v)))))
abbrev T89v : Ty := (.pr (.vw T135) (.pr T85v (.pr i6 T87v)))
abbrev T39v : Ty := (.pr T24 (.pr (.vw (.sl T124)) (.pr (.vw T56) (.pr (.vw T89) (.pr (.vw T97) T37v)))))
abbrev T97v : Ty := (.pr (.vw T87) T87v)
noncomputable def e32 : Ent Tryz.prog ⟨[.v (.sl (.int .u8))],[T122],true⟩ := genB [] 32 _ 2 [⟨1,[(.normal,⟨[(0,.one (.sl false (.int .u8)))],[]⟩,[])]⟩] [] [] mo Tryz.func32 rfl rfl (by kernel_rfl) (by kernel_rfl) rfl
theorem k32 (a0 : Den (.sl (.int .u8))) : e32.f (a0) = s_l20Open (a0) := by kernel_rfl
noncomputable def n32 : Ent Tryz.prog ⟨[.v (.sl (.int .u8))],[T122],true⟩ := ⟨32, s_l20Open, fun a0 y hs h => e32.ok _ y hs ((k32 a0).trans h)⟩
noncomputable def e35 : Ent Tryz.prog ⟨[.w T122,.v i6],[i6],false⟩ := genE [] 35 _ [.t 4] [⟨9,[(.normal,⟨[(0,.one (.vp 0 0)),(24,.one .b)],[.pk true T122]⟩,[])]⟩] [] [] mo Tryz.func35 rfl rfl (by kernel_rfl) (by kernel_rfl) (by kernel_rfl) rfl
theorem k35 (a0 : Den T122) (a1 : Den i6) : e35.f (a0, a1) = s_l20Rd_pick (a0, a1) := by kernel_rfl
noncomputable def n35 : Ent Tryz.prog ⟨[.w T122,.v i6],[i6],false⟩ := ⟨35, s_l20Rd_pick, fun ⟨a0,a1⟩ y hs h => e35.ok _ y hs ((k35 a0 a1).trans h)⟩
noncomputable def e33 : Ent Tryz.prog ⟨[.w T122],[T24],false⟩ := genE [⟨_,n35,none⟩] 33 _ [.c 2 (some 10)] [⟨4,[(.normal,⟨[(2,.one (.vp 1 0)),(3,.one (.vp 2 0)),(68,.one .b)],[.pk true T122,.pk false T24,.pk false T24]⟩,[])]⟩,⟨1,[(.normal,⟨[(2,.one (.vp 1 0)),(3,.one (.vp 2 0))],[.pk true T122,.pk false T24,.pk false T24]⟩,[])]⟩] [i6,i6,i6] [] mo Tryz.func33 rfl rfl (by kernel_rfl) (by kernel_rfl) (by kernel_rfl) rfl
theorem k33 (a0 : Den T122) : e33.f (a0) = s_l20Job (a0) := by kernel_rfl
noncomputable def n33 : Ent Tryz.prog ⟨[.w T122],[T24],false⟩ := ⟨33, s_l20Job, fun a0 y hs h => e33.ok _ y hs ((k33 a0).trans h)⟩
noncomputable def e86 : Ent Tryz.prog ⟨[.w T122],[T124],false⟩ := genE [⟨_,n35,none⟩] 86 _ [.c 2 (some 5)] [] [i6] [] mo Tryz.func86 rfl rfl (by kernel_rfl) (by kernel_rfl) (by kernel_rfl) rfl
theorem k86 (a0 : Den T122) : e86.f (a0) = s_l20Rec (a0) := by kernel_rfl
noncomputable def n86 : Ent Tryz.prog ⟨[.w T122],[T124],false⟩ := ⟨86, s_l20Rec, fun a0 y hs h => e86.ok _ y hs ((k86 a0).trans h)⟩
noncomputable def e84 : Ent Tryz.prog ⟨[.w T122,.v i6],[(.sl T124)],false⟩ := genE [⟨_,n35,none⟩,⟨_,n86,none⟩] 84 _ [.t 4] [⟨20,[(.normal,⟨[(0,.one (.vp 0 0)),(5,.one (.ref 1)),(10,.one (.i .i64))],[.pk true T122,.sl T124]⟩,[])]⟩,⟨10,[(.normal,⟨[(0,.one (.vp 0 0)),(5,.one (.ref 1)),(11,.one (.vp 2 0))],[.pk true T122,.sl T124,.pk false T124]⟩,[])]⟩,⟨7,[(.normal,⟨[(0,.one (.vp 0 0)),(5,.one (.ref 1)),(11,.one (.vp 2 0))],[.pk true T122,.sl T124,.pk false T124]⟩,[])]⟩,⟨5,[(.normal,⟨[(0,.one (.vp 0 0)),(5,.one (.ref 1)),(7,.one (.i .i64))],[.pk true T122,.sl T124]⟩,[])]⟩,⟨2,[(.normal,⟨[(0,.one (.vp 0 0)),(5,.one (.ref 1)),(6,.one (.i .i64)),(7,.one (.i .i64)),(9,.one (.i .i64))],[.pk true T122,.sl T124]⟩,[]),(.exit 0,⟨[(5,.one (.ref 1))],[.pk true T122,.sl T124]⟩,[])]⟩] [T124,T124,i6,T124,i6,T124] [] mo Tryz.func84 rfl rfl (by kernel_rfl) (by kernel_rfl) (by kernel_rfl) rfl
theorem k84 (a0 : Den T122) (a1 : Den i6) : e84.f (a0, a1) = s_l20Log (a0, a1) := by kernel_rfl
noncomputable def n84 : Ent Tryz.prog ⟨[.w T122,.v i6],[(.sl T124)],false⟩ := ⟨84, s_l20Log, fun ⟨a0,a1⟩ y hs h => e84.ok _ y hs ((k84 a0 a1).trans h)⟩
noncomputable def e34 : Ent Tryz.prog ⟨[.w T122,.v T24],[(.sl (.sl T124))],false⟩ := genE [⟨_,n35,none⟩,⟨_,n84,none⟩] 34 _ [.t 4] [⟨2,[(.normal,⟨[(0,.one (.vp 0 0)),(3,.one (.vp 1 0)),(5,.one (.ref 2)),(6,.one (.i .i64))],[.pk true T122,.pk false T24,.sl (.sl T124)]⟩,[]),(.exit 0,⟨[(5,.one (.ref 1))],[.pk true T122,.sl (.sl T124)]⟩,[])]⟩] [(.sl T124),(.sl T124)] [] mo Tryz.func34 rfl rfl (by kernel_rfl) (by kernel_rfl) (by kernel_rfl) rfl
theorem k34 (a0 : Den T122) (a1 : Den T24) : e34.f (a0, a1) = s_l21Logs (a0, a1) := by kernel_rfl
noncomputable def n34 : Ent Tryz.prog ⟨[.w T122,.v T24],[(.sl (.sl T124))],false⟩ := ⟨34, s_l21Logs, fun ⟨a0,a1⟩ y hs h => e34.ok _ y hs ((k34 a0 a1).trans h)⟩
noncomputable def e85 : Ent Tryz.prog ⟨[.w T122,.v i6],[T124],false⟩ := genE [⟨_,n86,none⟩,⟨_,n35,none⟩] 85 _ [.c 4 (some 5)] [⟨21,[(.normal,⟨[(0,.one (.vp 0 0)),(4,.one (.vp 1 0)),(5,.one (.vp 2 0))],[.pk true T122,.pk false T124,.pk false T124]⟩,[])]⟩,⟨2,[(.normal,⟨[(4,.one (.vp 1 0)),(5,.one (.vp 2 0))],[.pk true T122,.pk false T124,.pk false T124]⟩,[])]⟩] [i6,i6,i6] [] mo Tryz.func85 rfl rfl (by kernel_rfl) (by kernel_rfl) (by kernel_rfl) rfl
theorem k85 (a0 : Den T122) (a1 : Den i6) : e85.f (a0, a1) = s_l20Item (a0, a1) := by kernel_rfl
noncomputable def n85 : Ent Tryz.prog ⟨[.w T122,.v i6],[T124],false⟩ := ⟨85, s_l20Item, fun ⟨a0,a1⟩ y hs h => e85.ok _ y hs ((k85 a0 a1).trans h)⟩
noncomputable def e36 : Ent Tryz.prog ⟨[.w T122,.v i6],[(.sl T124)],false⟩ := genE [⟨_,n35,none⟩,⟨_,n84,none⟩,⟨_,n85,none⟩,⟨_,n86,none⟩] 36 _ [.t 4] [⟨7,[(.normal,⟨[(0,.one (.vp 0 0)),(5,.one (.ref 1))],[.pk true T122,.sl T124]⟩,[]),(.exit 1,⟨[(5,.one (.ref 1))],[.pk true T122,.sl T124]⟩,[])]⟩,⟨2,[(.normal,⟨[(5,.one (.ref 1))],[.pk true T122,.sl T124]⟩,[]),(.ret,⟨[(4,.one (.ref 1))],[.pk true T122,.sl T124]⟩,[])]⟩] [T124,T124,T124,T124] [] mo Tryz.func36 rfl rfl (by kernel_rfl) (by kernel_rfl) (by kernel_rfl) rfl
theorem k36 (a0 : Den T122) (a1 : Den i6) : e36.f (a0, a1) = s_l20AnyLog (a0, a1) := by kernel_rfl
noncomputable def n36 : Ent Tryz.prog ⟨[.w T122,.v i6],[(.sl T124)],false⟩ := ⟨36, s_l20AnyLog, fun ⟨a0,a1⟩ y hs h => e36.ok _ y hs ((k36 a0 a1).trans h)⟩
noncomputable def e37 : Ent Tryz.prog ⟨[.w T122,.v i6],[T24],false⟩ := genE [⟨_,n33,none⟩,⟨_,n35,none⟩] 37 _ [.c 4 (some 10)] [⟨2,[(.normal,⟨[(4,.one (.vp 1 0)),(5,.one (.vp 2 0))],[.pk true T122,.pk false T24,.pk false T24]⟩,[])]⟩] [i6] [] mo Tryz.func37 rfl rfl (by kernel_rfl) (by kernel_rfl) (by kernel_rfl) rfl
theorem k37 (a0 : Den T122) (a1 : Den i6) : e37.f (a0, a1) = s_l20AnyJob (a0, a1) := by kernel_rfl
noncomputable def n37 : Ent Tryz.prog ⟨[.w T122,.v i6],[T24],false⟩ := ⟨37, s_l20AnyJob, fun ⟨a0,a1⟩ y hs h => e37.ok _ y hs ((k37 a0 a1).trans h)⟩
noncomputable def e6 : Ent Tryz.prog ⟨[.v (.sl (.int .u8))],[T24,(.sl (.sl T124))],false⟩ := genE [⟨_,n32,none⟩,⟨_,n33,none⟩,⟨_,n34,none⟩,⟨_,n35,none⟩,⟨_,n36,none⟩,⟨_,n37,none⟩] 6 _ [.c 2 (some 10),.t 3] [⟨2,[(.normal,⟨[(2,.one (.vp 0 0)),(5,.one (.vp 1 0)),(6,.one (.ref 2))],[.pk false T24,.pk false T24,.sl (.sl T124)]⟩,[]),(.ret,⟨[(2,.one (.vp 0 0)),(3,.one (.ref 1))],[.pk false T24,.sl (.sl T124)]⟩,[])]⟩] [(.sl T124)] [] mo Tryz.func6 rfl rfl (by kernel_rfl) (by kernel_rfl) (by kernel_rfl) rfl
theorem k6 (a0 : Den (.sl (.int .u8))) : e6.f (a0) = s_DrawFloNew (a0) := by kernel_rfl
noncomputable def n6 : Ent Tryz.prog ⟨[.v (.sl (.int .u8))],[T24,(.sl (.sl T124))],false⟩ := ⟨6, s_DrawFloNew, fun a0 y hs h => e6.ok _ y hs ((k6 a0).trans h)⟩
noncomputable def e51 : Ent Tryz.prog ⟨[.v i6,.v i6,.v i6],[.bool],false⟩ := genE [] 51 _ [.t 6] [] [] [] mo Tryz.func51 rfl rfl (by kernel_rfl) (by kernel_rfl) (by kernel_rfl) rfl
theorem k51 (a0 : Den i6) (a1 : Den i6) (a2 : Den i6) : e51.f (a0, a1, a2) = i_in (a0, a1, a2) := by kernel_rfl
noncomputable def n51 : Ent Tryz.prog ⟨[.v i6,.v i6,.v i6],[.bool],false⟩ := ⟨51, i_in, fun ⟨a0,a1,a2⟩ y hs h => e51.ok _ y hs ((k51 a0 a1 a2).trans h)⟩
noncomputable def e87 : Ent Tryz.prog ⟨[.v i6],[.bool],false⟩ := genE [⟨_,n51,none⟩] 87 _ [.t 2] [] [] [] mo Tryz.func87 rfl rfl (by kernel_rfl) (by kernel_rfl) (by kernel_rfl) rfl
theorem k87 (a0 : Den i6) : e87.f (a0) = i_tells (a0) := by kernel_rfl
noncomputable def n87 : Ent Tryz.prog ⟨[.v i6],[.bool],false⟩ := ⟨87, i_tells, fun a0 y hs h => e87.ok _ y hs ((k87 a0).trans h)⟩
noncomputable def e38 : Ent Tryz.prog ⟨[.v T24],[.bool],false⟩ := genE [⟨_,n51,none⟩,⟨_,n87,none⟩] 38 _ [.t 2] [⟨7,[(.normal,⟨[(1,.one (.vp 0 0)),(25,.one .b)],[.pk false T24]⟩,[])]⟩,⟨1,[(.normal,⟨[(1,.one (.vp 0 0)),(3,.one .b)],[.pk false T24]⟩,[])]⟩] [] [] mo Tryz.func38 rfl rfl (by kernel_rfl) (by kernel_rfl) (by kernel_rfl) rfl
theorem k38 (a0 : Den T24) : e38.f (a0) = i_JobOk (a0) := by kernel_rfl
noncomputable def n38 : Ent Tryz.prog ⟨[.v T24],[.bool],false⟩ := ⟨38, i_JobOk, fun a0 y hs h => e38.ok _ y hs ((k38 a0).trans h)⟩
noncomputable def e88 : Ent Tryz.prog ⟨[.v (.sl (.sl T124)),.f (.sl T124) .bool],[i6],false⟩ := genE [] 88 _ [.t 4] [⟨2,[(.normal,⟨[(8,.one (.i .i64))],[]⟩,[]),(.ret,⟨[(4,.one (.i .i64))],[]⟩,[]),(.exit 0,⟨[],[]⟩,[])]⟩] [] [] mo Tryz.func88 rfl rfl (by kernel_rfl) (by kernel_rfl) (by kernel_rfl) rfl
theorem k88 (a0 : Den (.sl (.sl T124))) (a1 : Clo Tryz.prog (.sl T124) .bool) : e88.f (a0, a1) = g_IndexFunc_LItmItem (a0, a1.p) := by kernel_rfl
noncomputable def n88 : Ent Tryz.prog ⟨[.v (.sl (.sl T124)),.f (.sl T124) .bool],[i6],false⟩ := ⟨88, fun x => g_IndexFunc_LItmItem (x.1, x.2.p), fun ⟨a0,a1⟩ y hs h => e88.ok _ y hs ((k88 a0 a1).trans h)⟩
noncomputable def e39 : Ent Tryz.prog ⟨[.v (.sl (.sl T124)),.f (.sl T124) .bool],[.bool],false⟩ := genE [⟨_,n88,none⟩] 39 _ [.t 4] [] [] [] mo Tryz.func39 rfl rfl (by kernel_rfl) (by kernel_rfl) (by kernel_rfl) rfl
theorem k39 (a0 : Den (.sl (.sl T124))) (a1 : Clo Tryz.prog (.sl T124) .bool) : e39.f (a0, a1) = g_ContainsFunc_LItmItem (a0, a1.p) := by kernel_rfl
noncomputable def n39 : Ent Tryz.prog ⟨[.v (.sl (.sl T124)),.f (.sl T124) .bool],[.bool],false⟩ := ⟨39, fun x => g_ContainsFunc_LItmItem (x.1, x.2.p), fun ⟨a0,a1⟩ y hs h => e39.ok _ y hs ((k39 a0 a1).trans h)⟩
noncomputable def e89 : Ent Tryz.prog ⟨[.v T124],[.bool],false⟩ := genE [⟨_,n51,none⟩] 89 _ [.t 2] [] [] [] mo Tryz.func89 rfl rfl (by kernel_rfl) (by kernel_rfl) (by kernel_rfl) rfl
theorem k89 (a0 : Den T124) : e89.f (a0) = i_ItmOk (a0) := by kernel_rfl
noncomputable def n89 : Ent Tryz.prog ⟨[.v T124],[.bool],false⟩ := ⟨89, i_ItmOk, fun a0 y hs h => e89.ok _ y hs ((k89 a0).trans h)⟩
noncomputable def e41 : Ent Tryz.prog ⟨[.v (.sl T124)],[.bool],false⟩ := genE [⟨_,n51,none⟩,⟨_,n89,none⟩] 41 _ [.t 2] [⟨10,[(.normal,⟨[(5,.one (.vp 0 0)),(34,.one .b)],[.pk false T124]⟩,[])]⟩,⟨5,[(.normal,⟨[(3,.one (.i .i64))],[]⟩,[])]⟩,⟨2,[(.normal,⟨[(3,.one (.i .i64)),(12,.one (.i .i64))],[]⟩,[]),(.ret,⟨[(2,.one .b)],[]⟩,[]),(.exit 0,⟨[],[]⟩,[])]⟩] [] [] mo Tryz.func41 rfl rfl (by kernel_rfl) (by kernel_rfl) (by kernel_rfl) rfl
theorem k41 (a0 : Den (.sl T124)) : e41.f (a0) = i_LogOk (a0) := by kernel_rfl
noncomputable def n41 : Ent Tryz.prog ⟨[.v (.sl T124)],[.bool],false⟩ := ⟨41, i_LogOk, fun a0 y hs h => e41.ok _ y hs ((k41 a0).trans h)⟩
noncomputable def e40 : Ent Tryz.prog ⟨[.v (.sl T124)],[.bool],false⟩ := genE [⟨_,n41,none⟩] 40 _ [.t 2] [] [] [] mo Tryz.func40 rfl rfl (by kernel_rfl) (by kernel_rfl) (by kernel_rfl) rfl
theorem k40 (a0 : Den (.sl T124)) : e40.f (a0) = i_FloNew__1 (a0) := by kernel_rfl
noncomputable def n40 : Ent Tryz.prog ⟨[.v (.sl T124)],[.bool],false⟩ := ⟨40, i_FloNew__1, fun a0 y hs h => e40.ok _ y hs ((k40 a0).trans h)⟩
theorem clnil90 (n c : Nat) (w : World) : Calls Tryz.prog 90 #[.slice none n c] w fun e w' => e = .returned (.slice none 0 0) ∧ w' = w := by
  have mixed := mo
  have q22 : ∀ (w : World) (a : Option Addr) (n c n' c' : Nat), (binOp .eql 44 (.slice a n c) (.slice none n' c')).run Tryz.prog w = .ok (.bool a.isNone) w := fun w a n c n' c' => Lib.run_eql_slice_nil w _ _ a n c n' c' Tryz.underlying44
  go_enter Tryz.func90, Tryz.ntmps90
  go_wp2
  go_ret
  exact ⟨rfl, rfl⟩
set_option maxHeartbeats 2000000 in
theorem cl90 (i0 : TypeInfo) (z : Value) (hi : Tryz.prog.info? 124 = some i0) (hz0 : i0.zero = some z) (hz1 : i0.size = 5) (hz2 : i0.bytes = 40) (hzs : z.cells.size = 5) (ad : Addr) (n c : Nat) (news : List Value) (w : World) (hl : news.length = n * 5) (hb : n * 40 ≤ 140737488351232) (hc : ∀ j u, news[j]? = some u → w.cell? (ad.add j) = some u) (h1 : ∀ u ∈ news, u.oneCell' = true) :
    Calls Tryz.prog 90 #[.slice (some ad) n c] w fun e w' => ∃ v', e = .returned v' ∧ w'.ownsRow w.heap.size 124 5 v' n news ∧ Below w.heap.size w w' := by
  have mixed := mo
  have q22 : ∀ (w : World) (a : Option Addr) (n c n' c' : Nat), (binOp .eql 44 (.slice a n c) (.slice none n' c')).run Tryz.prog w = .ok (.bool a.isNone) w := fun w a n c n' c' => Lib.run_eql_slice_nil w _ _ a n c n' c' Tryz.underlying44
  have u22 : ∀ w, Sem.run Tryz.prog (underlying 44) w = .ok (TypeDesc.slice 124) w := run_underlying Tryz.underlying44
  have A : Aside (∀ j u, news[j]? = some u → w.cell? (ad.add j) = some u) := hc
  clear hc
  go_enter Tryz.func90, Tryz.ntmps90
  go_wp2_with (at_builtin; refine wpList_append_own _ rfl _ _ 44 rfl w.heap.size 124 i0 z 5 40 Tryz.underlying44 hi hz0 hz1 hz2 hzs (by decide) _ _ _ rfl (World.ownsRow_made w #[] 0 (Nat.le_refl _) (Nat.zero_le _) (by simp)) ad n c news rfl ?qc1 ?qc2 ?qc3 ?qc4 ?qc5 ?qc6 ?_)
  case qc1 => exact hl
  case qc2 =>
    intro j u hj
    exact Lib.cell?_alloc_some _ (A.out j u hj)
  case qc3 => exact h1
  case qc4 => rw [Nat.zero_add]; simp only [maxLen]; omega
  case qc5 => rw [Nat.zero_add]; omega
  case qc6 => simp
  intro v' w1 hown hgrow hnil
  go_wp2
  go_ret
  refine ⟨v', rfl, by simpa using hown, ?_⟩
  exact ((Below.refl _ w).alloc (Nat.le_refl _) _).grown hgrow (by simp) (by intro k hk; simp [Value.ownBlock] at hk; omega)
noncomputable def n90 : Ent Tryz.prog ⟨[.v (.sl T124)],[.sl T124],false⟩ := cloneE 90 T124 40 124 ⟨_, Tryz.func90, by kernel_rfl, by kernel_rfl⟩ rfl clnil90
  (fun ad n c news w => cl90 ((Tryz.prog.info? 124).getD default) (((Tryz.prog.info? 124).getD default).zero.getD default) (by kernel_rfl) (by kernel_rfl) (by kernel_rfl) (by kernel_rfl) (by kernel_rfl) ad n c news w)
noncomputable def e42 : Ent Tryz.prog ⟨[.v (.sl (.sl T124))],[(.sl (.sl T124))],false⟩ := genE [⟨_,n90,none⟩] 42 _ [.t 2] [⟨2,[(.normal,⟨[(3,.one (.ref 0)),(8,.one (.i .i64))],[.sl (.sl T124)]⟩,[]),(.exit 0,⟨[(3,.one (.ref 0))],[.sl (.sl T124)]⟩,[])]⟩] [(.sl T124)] [] mo Tryz.func42 rfl rfl (by kernel_rfl) (by kernel_rfl) (by kernel_rfl) rfl
theorem k42 (a0 : Den (.sl (.sl T124))) : e42.f (a0) = i_logsOf (a0) := by kernel_rfl
noncomputable def n42 : Ent Tryz.prog ⟨[.v (.sl (.sl T124))],[(.sl (.sl T124))],false⟩ := ⟨42, i_logsOf, fun a0 y hs h => e42.ok _ y hs ((k42 a0).trans h)⟩
noncomputable def e197 : Ent Tryz.prog ⟨[.v (.int .u32),.v (.int .u32)],[(.int .u32),(.int .u32)],false⟩ := genE [] 197 _ [.t 4,.t 5] [] [] [] mo Tryz.func197 rfl rfl (by kernel_rfl) (by kernel_rfl) (by kernel_rfl) rfl
theorem k197 (a0 : Den (.int .u32)) (a1 : Den (.int .u32)) : e197.f (a0, a1) = b_Mul32 (a0, a1) := by kernel_rfl
noncomputable def n197 : Ent Tryz.prog ⟨[.v (.int .u32),.v (.int .u32)],[(.int .u32),(.int .u32)],false⟩ := ⟨197, b_Mul32, fun ⟨a0,a1⟩ y hs h => e197.ok _ y hs ((k197 a0 a1).trans h)⟩
noncomputable def e198 : Ent Tryz.prog ⟨[.v (.int .u64),.v (.int .u64)],[(.int .u64),(.int .u64)],false⟩ := genE [] 198 _ [.t 4,.t 5] [] [] [] mo Tryz.func198 rfl rfl (by kernel_rfl) (by kernel_rfl) (by kernel_rfl) rfl
theorem k198 (a0 : Den (.int .u64)) (a1 : Den (.int .u64)) : e198.f (a0, a1) = b_Mul64 (a0, a1) := by kernel_rfl
noncomputable def n198 : Ent Tryz.prog ⟨[.v (.int .u64),.v (.int .u64)],[(.int .u64),(.int .u64)],false⟩ := ⟨198, b_Mul64, fun ⟨a0,a1⟩ y hs h => e198.ok _ y hs ((k198 a0 a1).trans h)⟩
noncomputable def e180 : Ent Tryz.prog ⟨[.v (.int .u64),.v (.int .u64)],[(.int .u64),(.int .u64)],false⟩ := genE [⟨_,n197,none⟩,⟨_,n198,none⟩] 180 _ [.t 4,.t 5] [] [] [] mo Tryz.func180 rfl rfl (by kernel_rfl) (by kernel_rfl) (by kernel_rfl) rfl
theorem k180 (a0 : Den (.int .u64)) (a1 : Den (.int .u64)) : e180.f (a0, a1) = b_Mul (a0, a1) := by kernel_rfl
noncomputable def n180 : Ent Tryz.prog ⟨[.v (.int .u64),.v (.int .u64)],[(.int .u64),(.int .u64)],false⟩ := ⟨180, b_Mul, fun ⟨a0,a1⟩ y hs h => e180.ok _ y hs ((k180 a0 a1).trans h)⟩
noncomputable def e136 : Ent Tryz.prog ⟨[.v (.sl i6),.v i6],[(.sl i6)],false⟩ := genE [⟨_,n180,none⟩] 136 _ [.t 4] [⟨10,[(.normal,⟨[(26,.one .b)],[]⟩,[])]⟩,⟨2,[(.normal,⟨[(7,.one (.ref 0)),(8,.one (.i .i64))],[.sl i6]⟩,[]),(.exit 0,⟨[(7,.one (.ref 0))],[.sl i6]⟩,[])]⟩] [i6] [] mo Tryz.func136 rfl rfl (by kernel_rfl) (by kernel_rfl) (by kernel_rfl) rfl
theorem k136 (a0 : Den (.sl i6)) (a1 : Den i6) : e136.f (a0, a1) = g_Repeat_int (a0, a1) := by kernel_rfl
noncomputable def n136 : Ent Tryz.prog ⟨[.v (.sl i6),.v i6],[(.sl i6)],false⟩ := ⟨136, g_Repeat_int, fun ⟨a0,a1⟩ y hs h => e136.ok _ y hs ((k136 a0 a1).trans h)⟩
noncomputable def e91 : Ent Tryz.prog ⟨[.w T37,.v T24],[],false⟩ := genE [⟨_,n136,none⟩] 91 _ [] [] [i6,.bool,T119] [] mo Tryz.func91 rfl rfl (by kernel_rfl) (by kernel_rfl) (by kernel_rfl) rfl
theorem k91 (a0 : Den T37) (a1 : Den T24) : e91.f (a0, a1) = i_CkpState_idle (a0, a1) := by kernel_rfl
noncomputable def n91 : Ent Tryz.prog ⟨[.w T37,.v T24],[],false⟩ := ⟨91, i_CkpState_idle, fun ⟨a0,a1⟩ y hs h => e91.ok _ y hs ((k91 a0 a1).trans h)⟩
noncomputable def e43 : Ent Tryz.prog ⟨[.v T24],[T37],false⟩ := genE [⟨_,n38,none⟩,⟨_,n91,none⟩] 43 _ [.c 2 (some 8)] [⟨2,[(.normal,⟨[(1,.one (.vp 0 0)),(2,.one (.vp 1 0)),(3,.one (.vp 2 0)),(17,.one (.i .i64))],[.pk false T24,.pk false T37,.pk false T37]⟩,[]),(.exit 0,⟨[(2,.one (.vp 0 0)),(3,.one (.vp 1 0))],[.pk false T37,.pk false T37]⟩,[])]⟩] [i6,T119,i6] [] mo Tryz.func43 rfl rfl (by kernel_rfl) (by kernel_rfl) (by kernel_rfl) rfl
theorem k43 (a0 : Den T24) : e43.f (a0) = i_CkpNew (a0) := by kernel_rfl
noncomputable def n43 : Ent Tryz.prog ⟨[.v T24],[T37],false⟩ := ⟨43, i_CkpNew, fun a0 y hs h => e43.ok _ y hs ((k43 a0).trans h)⟩
noncomputable def e137 : Ent Tryz.prog ⟨[.v i6],[.bool],false⟩ := genE [⟨_,n51,none⟩] 137 _ [.t 2] [] [] [] mo Tryz.func137 rfl rfl (by kernel_rfl) (by kernel_rfl) (by kernel_rfl) rfl
theorem k137 (a0 : Den i6) : e137.f (a0) = i_isTime (a0) := by kernel_rfl
noncomputable def n137 : Ent Tryz.prog ⟨[.v i6],[.bool],false⟩ := ⟨137, i_isTime, fun a0 y hs h => e137.ok _ y hs ((k137 a0).trans h)⟩
noncomputable def e67 : Ent Tryz.prog ⟨[.v i6],[.bool],false⟩ := genE [⟨_,n51,none⟩] 67 _ [.t 2] [] [] [] mo Tryz.func67 rfl rfl (by kernel_rfl) (by kernel_rfl) (by kernel_rfl) rfl
theorem k67 (a0 : Den i6) : e67.f (a0) = i_isKey (a0) := by kernel_rfl
noncomputable def n67 : Ent Tryz.prog ⟨[.v i6],[.bool],false⟩ := ⟨67, i_isKey, fun a0 y hs h => e67.ok _ y hs ((k67 a0).trans h)⟩
noncomputable def e56 : Ent Tryz.prog ⟨[.v T56],[.bool],false⟩ := genE [⟨_,n51,none⟩] 56 _ [.t 2] [] [] [] mo Tryz.func56 rfl rfl (by kernel_rfl) (by kernel_rfl) (by kernel_rfl) rfl
theorem k56 (a0 : Den T56) : e56.f (a0) = i_WinOk (a0) := by kernel_rfl
noncomputable def n56 : Ent Tryz.prog ⟨[.v T56],[.bool],false⟩ := ⟨56, i_WinOk, fun a0 y hs h => e56.ok _ y hs ((k56 a0).trans h)⟩
noncomputable def e68 : Ent Tryz.prog ⟨[.v T58],[.bool],false⟩ := genE [⟨_,n51,none⟩] 68 _ [.t 2] [] [] [] mo Tryz.func68 rfl rfl (by kernel_rfl) (by kernel_rfl) (by kernel_rfl) rfl
theorem k68 (a0 : Den T58) : e68.f (a0) = i_AggOk (a0) := by kernel_rfl
noncomputable def n68 : Ent Tryz.prog ⟨[.v T58],[.bool],false⟩ := ⟨68, i_AggOk, fun a0 y hs h => e68.ok _ y hs ((k68 a0).trans h)⟩
noncomputable def e138 : Ent Tryz.prog ⟨[.v T163,.v T24,.v i6],[.bool],false⟩ := genE [⟨_,n67,none⟩,⟨_,n56,none⟩,⟨_,n68,none⟩,⟨_,n51,none⟩] 138 _ [.t 6] [⟨4,[(.normal,⟨[(3,.one (.vp 0 0)),(4,.one (.vp 1 0)),(50,.one .b)],[.pk false T163,.pk false T24]⟩,[])]⟩] [] [] mo Tryz.func138 rfl rfl (by kernel_rfl) (by kernel_rfl) (by kernel_rfl) rfl
theorem k138 (a0 : Den T163) (a1 : Den T24) (a2 : Den i6) : e138.f (a0, a1, a2) = i_OpRow_ok (a0, a1, a2) := by kernel_rfl
noncomputable def n138 : Ent Tryz.prog ⟨[.v T163,.v T24,.v i6],[.bool],false⟩ := ⟨138, i_OpRow_ok, fun ⟨a0,a1,a2⟩ y hs h => e138.ok _ y hs ((k138 a0 a1 a2).trans h)⟩
noncomputable def e199 : Ent Tryz.prog ⟨[.v i6],[.bool],false⟩ := genE [] 199 _ [.t 2] [] [] [] mo Tryz.func199 rfl rfl (by kernel_rfl) (by kernel_rfl) (by kernel_rfl) rfl
theorem k199 (a0 : Den i6) : e199.f (a0) = g_isNaN_int (a0) := by kernel_rfl
noncomputable def n199 : Ent Tryz.prog ⟨[.v i6],[.bool],false⟩ := ⟨199, g_isNaN_int, fun a0 y hs h => e199.ok _ y hs ((k199 a0).trans h)⟩
noncomputable def e182 : Ent Tryz.prog ⟨[.v i6,.v i6],[i6],false⟩ := genE [⟨_,n199,none⟩] 182 _ [.t 4] [⟨10,[(.ret,⟨[(4,.one (.i .i64))],[]⟩,[]),(.normal,⟨[],[]⟩,[])]⟩] [] [] mo Tryz.func182 rfl rfl (by kernel_rfl) (by kernel_rfl) (by kernel_rfl) rfl
theorem k182 (a0 : Den i6) (a1 : Den i6) : e182.f (a0, a1) = g_Compare_int (a0, a1) := by kernel_rfl
noncomputable def n182 : Ent Tryz.prog ⟨[.v i6,.v i6],[i6],false⟩ := ⟨182, g_Compare_int, fun ⟨a0,a1⟩ y hs h => e182.ok _ y hs ((k182 a0 a1).trans h)⟩
noncomputable def e181 : Ent Tryz.prog ⟨[.v (.sl i6)],[i6],false⟩ := genE [] 181 _ [.t 2] [⟨2,[(.normal,⟨[(8,.one (.i .i64))],[]⟩,[]),(.ret,⟨[(2,.one (.i .i64))],[]⟩,[]),(.exit 0,⟨[],[]⟩,[])]⟩] [] [] mo Tryz.func181 rfl rfl (by kernel_rfl) (by kernel_rfl) (by kernel_rfl) rfl
theorem k181 (a0 : Den (.sl i6)) : e181.f (a0) = g_Or_int (a0) := by kernel_rfl
noncomputable def n181 : Ent Tryz.prog ⟨[.v (.sl i6)],[i6],false⟩ := ⟨181, g_Or_int, fun a0 y hs h => e181.ok _ y hs ((k181 a0).trans h)⟩
noncomputable def e183 : Ent Tryz.prog ⟨[.v T56,.v T56],[i6],false⟩ := genE [⟨_,n182,none⟩,⟨_,n181,none⟩] 183 _ [.t 4] [] [i6] [] mo Tryz.func183 rfl rfl (by kernel_rfl) (by kernel_rfl) (by kernel_rfl) rfl
theorem k183 (a0 : Den T56) (a1 : Den T56) : e183.f (a0, a1) = i_WinWin_compare (a0, a1) := by kernel_rfl
noncomputable def n183 : Ent Tryz.prog ⟨[.v T56,.v T56],[i6],false⟩ := ⟨183, i_WinWin_compare, fun ⟨a0,a1⟩ y hs h => e183.ok _ y hs ((k183 a0 a1).trans h)⟩
noncomputable def e139 : Ent Tryz.prog ⟨[.v T163,.v T163],[i6],false⟩ := genE [⟨_,n182,none⟩,⟨_,n183,none⟩,⟨_,n181,none⟩] 139 _ [.t 4] [] [i6] [] mo Tryz.func139 rfl rfl (by kernel_rfl) (by kernel_rfl) (by kernel_rfl) rfl
theorem k139 (a0 : Den T163) (a1 : Den T163) : e139.f (a0, a1) = i_OpRow_compare (a0, a1) := by kernel_rfl
noncomputable def n139 : Ent Tryz.prog ⟨[.v T163,.v T163],[i6],false⟩ := ⟨139, i_OpRow_compare, fun ⟨a0,a1⟩ y hs h => e139.ok _ y hs ((k139 a0 a1).trans h)⟩
noncomputable def e141 : Ent Tryz.prog ⟨[.v T56,.v T56],[.bool],false⟩ := genE [] 141 _ [.t 4] [] [] [] mo Tryz.func141 rfl rfl (by kernel_rfl) (by kernel_rfl) (by kernel_rfl) rfl
theorem k141 (a0 : Den T56) (a1 : Den T56) : e141.f (a0, a1) = i_WinTouch (a0, a1) := by kernel_rfl
noncomputable def n141 : Ent Tryz.prog ⟨[.v T56,.v T56],[.bool],false⟩ := ⟨141, i_WinTouch, fun ⟨a0,a1⟩ y hs h => e141.ok _ y hs ((k141 a0 a1).trans h)⟩
noncomputable def e140 : Ent Tryz.prog ⟨[.v T163,.rp T163],[.bool],false⟩ := genE [⟨_,n141,none⟩] 140 _ [.t 3] [] [] [] mo Tryz.func140 rfl rfl (by kernel_rfl) (by kernel_rfl) (by kernel_rfl) rfl
theorem k140 (a0 : Den T163) (a1 : Den T163) : e140.f (a0, a1) = i_OpOk__1 (a0, a1) := by kernel_rfl
noncomputable def n140 : Ent Tryz.prog ⟨[.v T163,.rp T163],[.bool],false⟩ := ⟨140, i_OpOk__1, fun ⟨a0,a1⟩ y hs h => e140.ok _ y hs ((k140 a0 a1).trans h)⟩
noncomputable def e184 : Ent Tryz.prog ⟨[.v (.sl T163),.f T163 .bool],[i6],false⟩ := genE [] 184 _ [.t 4] [⟨2,[(.normal,⟨[(8,.one (.i .i64))],[]⟩,[]),(.ret,⟨[(4,.one (.i .i64))],[]⟩,[]),(.exit 0,⟨[],[]⟩,[])]⟩] [] [] mo Tryz.func184 rfl rfl (by kernel_rfl) (by kernel_rfl) (by kernel_rfl) rfl
theorem k184 (a0 : Den (.sl T163)) (a1 : Clo Tryz.prog T163 .bool) : e184.f (a0, a1) = g_IndexFunc_OpRow (a0, a1.p) := by kernel_rfl
noncomputable def n184 : Ent Tryz.prog ⟨[.v (.sl T163),.f T163 .bool],[i6],false⟩ := ⟨184, fun x => g_IndexFunc_OpRow (x.1, x.2.p), fun ⟨a0,a1⟩ y hs h => e184.ok _ y hs ((k184 a0 a1).trans h)⟩
noncomputable def e142 : Ent Tryz.prog ⟨[.v (.sl T163),.f T163 .bool],[.bool],false⟩ := genE [⟨_,n184,none⟩] 142 _ [.t 4] [] [] [] mo Tryz.func142 rfl rfl (by kernel_rfl) (by kernel_rfl) (by kernel_rfl) rfl
theorem k142 (a0 : Den (.sl T163)) (a1 : Clo Tryz.prog T163 .bool) : e142.f (a0, a1) = g_ContainsFunc_OpRow (a0, a1.p) := by kernel_rfl
noncomputable def n142 : Ent Tryz.prog ⟨[.v (.sl T163),.f T163 .bool],[.bool],false⟩ := ⟨142, fun x => g_ContainsFunc_OpRow (x.1, x.2.p), fun ⟨a0,a1⟩ y hs h => e142.ok _ y hs ((k142 a0 a1).trans h)⟩
noncomputable def e92 : Ent Tryz.prog ⟨[.v T24,.v T85],[.bool],false⟩ := genE [⟨_,n38,none⟩,⟨_,n137,none⟩,⟨_,n138,none⟩,⟨_,n139,none⟩,⟨_,n140,none⟩,⟨_,n142,none⟩] 92 _ [.t 4] [⟨18,[(.normal,⟨[(2,.one (.vp 0 0)),(3,.one (.vp 1 0)),(22,.one .b)],[.pk false T24,.pk false T85v]⟩,[])]⟩,⟨11,[(.normal,⟨[(2,.one (.vp 0 0)),(3,.one (.vp 1 0)),(6,.one (.vp 2 0)),(51,.one .b)],[.pk false T24,.pk false T85v,.pk false T163]⟩,[])]⟩,⟨7,[(.normal,⟨[(2,.one (.vp 0 0)),(3,.one (.vp 1 0)),(63,.one .b)],[.pk false T24,.pk false T85v]⟩,[])]⟩,⟨4,[(.ret,⟨[(4,.one .b)],[]⟩,[]),(.normal,⟨[(2,.one (.vp 0 0)),(3,.one (.vp 1 0))],[.pk false T24,.pk false T85v]⟩,[])]⟩,⟨2,[(.normal,⟨[(2,.one (.vp 0 0)),(3,.one (.vp 1 0)),(26,.one (.i .i64))],[.pk false T24,.pk false T85v]⟩,[]),(.ret,⟨[(4,.one .b)],[]⟩,[]),(.exit 0,⟨[],[]⟩,[])]⟩] [] [(8, [6])] mo Tryz.func92 rfl rfl (by kernel_rfl) (by kernel_rfl) (by kernel_rfl) rfl
theorem k92 (a0 : Den T24) (a1 : Den T85) : e92.f (a0, a1) = i_OpOk (a0, a1) := by kernel_rfl
noncomputable def n92 : Ent Tryz.prog ⟨[.v T24,.v T85],[.bool],false⟩ := ⟨92, i_OpOk, fun ⟨a0,a1⟩ y hs h => e92.ok _ y hs ((k92 a0 a1).trans h)⟩
noncomputable def e178 : Ent Tryz.prog ⟨[.v (.sl i6),.f i6 .bool],[i6],false⟩ := genE [] 178 _ [.t 4] [⟨2,[(.normal,⟨[(8,.one (.i .i64))],[]⟩,[]),(.ret,⟨[(4,.one (.i .i64))],[]⟩,[]),(.exit 0,⟨[],[]⟩,[])]⟩] [] [] mo Tryz.func178 rfl rfl (by kernel_rfl) (by kernel_rfl) (by kernel_rfl) rfl
theorem k178 (a0 : Den (.sl i6)) (a1 : Clo Tryz.prog i6 .bool) : e178.f (a0, a1) = g_IndexFunc_int (a0, a1.p) := by kernel_rfl
noncomputable def n178 : Ent Tryz.prog ⟨[.v (.sl i6),.f i6 .bool],[i6],false⟩ := ⟨178, fun x => g_IndexFunc_int (x.1, x.2.p), fun ⟨a0,a1⟩ y hs h => e178.ok _ y hs ((k178 a0 a1).trans h)⟩
noncomputable def e133 : Ent Tryz.prog ⟨[.v (.sl i6),.f i6 .bool],[.bool],false⟩ := genE [⟨_,n178,none⟩] 133 _ [.t 4] [] [] [] mo Tryz.func133 rfl rfl (by kernel_rfl) (by kernel_rfl) (by kernel_rfl) rfl
theorem k133 (a0 : Den (.sl i6)) (a1 : Clo Tryz.prog i6 .bool) : e133.f (a0, a1) = g_ContainsFunc_int (a0, a1.p) := by kernel_rfl
noncomputable def n133 : Ent Tryz.prog ⟨[.v (.sl i6),.f i6 .bool],[.bool],false⟩ := ⟨133, fun x => g_ContainsFunc_int (x.1, x.2.p), fun ⟨a0,a1⟩ y hs h => e133.ok _ y hs ((k133 a0 a1).trans h)⟩
noncomputable def e143 : Ent Tryz.prog ⟨[.v i6],[.bool],false⟩ := genE [⟨_,n137,none⟩] 143 _ [.t 2] [] [] [] mo Tryz.func143 rfl rfl (by kernel_rfl) (by kernel_rfl) (by kernel_rfl) rfl
theorem k143 (a0 : Den i6) : e143.f (a0) = i_marksOk__1 (a0) := by kernel_rfl
noncomputable def n143 : Ent Tryz.prog ⟨[.v i6],[.bool],false⟩ := ⟨143, i_marksOk__1, fun a0 y hs h => e143.ok _ y hs ((k143 a0).trans h)⟩
noncomputable def e93 : Ent Tryz.prog ⟨[.v T24,.v (.sl i6)],[.bool],false⟩ := genE [⟨_,n133,none⟩,⟨_,n143,none⟩] 93 _ [.t 4] [] [] [] mo Tryz.func93 rfl rfl (by kernel_rfl) (by kernel_rfl) (by kernel_rfl) rfl
theorem k93 (a0 : Den T24) (a1 : Den (.sl i6)) : e93.f (a0, a1) = i_marksOk (a0, a1) := by kernel_rfl
noncomputable def n93 : Ent Tryz.prog ⟨[.v T24,.v (.sl i6)],[.bool],false⟩ := ⟨93, i_marksOk, fun ⟨a0,a1⟩ y hs h => e93.ok _ y hs ((k93 a0 a1).trans h)⟩
theorem clnil144 (n c : Nat) (w : World) : Calls Tryz.prog 144 #[.slice none n c] w fun e w' => e = .returned (.slice none 0 0) ∧ w' = w := by
  have mixed := mo
  have q22 : ∀ (w : World) (a : Option Addr) (n c n' c' : Nat), (binOp .eql 83 (.slice a n c) (.slice none n' c')).run Tryz.prog w = .ok (.bool a.isNone) w := fun w a n c n' c' => Lib.run_eql_slice_nil w _ _ a n c n' c' Tryz.underlying83
  go_enter Tryz.func144, Tryz.ntmps144
  go_wp2
  go_ret
  exact ⟨rfl, rfl⟩
set_option maxHeartbeats 2000000 in
theorem cl144 (i0 : TypeInfo) (z : Value) (hi : Tryz.prog.info? 163 = some i0) (hz0 : i0.zero = some z) (hz1 : i0.size = 13) (hz2 : i0.bytes = 104) (hzs : z.cells.size = 13) (ad : Addr) (n c : Nat) (news : List Value) (w : World) (hl : news.length = n * 13) (hb : n * 104 ≤ 140737488351232) (hc : ∀ j u, news[j]? = some u → w.cell? (ad.add j) = some u) (h1 : ∀ u ∈ news, u.oneCell' = true) :
    Calls Tryz.prog 144 #[.slice (some ad) n c] w fun e w' => ∃ v', e = .returned v' ∧ w'.ownsRow w.heap.size 163 13 v' n news ∧ Below w.heap.size w w' := by
  have mixed := mo
  have q22 : ∀ (w : World) (a : Option Addr) (n c n' c' : Nat), (binOp .eql 83 (.slice a n c) (.slice none n' c')).run Tryz.prog w = .ok (.bool a.isNone) w := fun w a n c n' c' => Lib.run_eql_slice_nil w _ _ a n c n' c' Tryz.underlying83
  have u22 : ∀ w, Sem.run Tryz.prog (underlying 83) w = .ok (TypeDesc.slice 163) w := run_underlying Tryz.underlying83
  have A : Aside (∀ j u, news[j]? = some u → w.cell? (ad.add j) = some u) := hc
  clear hc
  go_enter Tryz.func144, Tryz.ntmps144
  go_wp2_with (at_builtin; refine wpList_append_own _ rfl _ _ 83 rfl w.heap.size 163 i0 z 13 104 Tryz.underlying83 hi hz0 hz1 hz2 hzs (by decide) _ _ _ rfl (World.ownsRow_made w #[] 0 (Nat.le_refl _) (Nat.zero_le _) (by simp)) ad n c news rfl ?qc1 ?qc2 ?qc3 ?qc4 ?qc5 ?qc6 ?_)
  case qc1 => exact hl
  case qc2 =>
    intro j u hj
    exact Lib.cell?_alloc_some _ (A.out j u hj)
  case qc3 => exact h1
  case qc4 => rw [Nat.zero_add]; simp only [maxLen]; omega
  case qc5 => rw [Nat.zero_add]; omega
  case qc6 => simp
  intro v' w1 hown hgrow hnil
  go_wp2
  go_ret
  refine ⟨v', rfl, by simpa using hown, ?_⟩
  exact ((Below.refl _ w).alloc (Nat.le_refl _) _).grown hgrow (by simp) (by intro k hk; simp [Value.ownBlock] at hk; omega)
noncomputable def n144 : Ent Tryz.prog ⟨[.v (.sl T163)],[.sl T163],false⟩ := cloneE 144 T163 104 163 ⟨_, Tryz.func144, by kernel_rfl, by kernel_rfl⟩ rfl clnil144
  (fun ad n c news w => cl144 ((Tryz.prog.info? 163).getD default) (((Tryz.prog.info? 163).getD default).zero.getD default) (by kernel_rfl) (by kernel_rfl) (by kernel_rfl) (by kernel_rfl) (by kernel_rfl) ad n c news w)
noncomputable def e94 : Ent Tryz.prog ⟨[.v T85],[T85],false⟩ := genE [⟨_,n144,none⟩] 94 _ [.c 2 (some 2)] [] [] [] mo Tryz.func94 rfl rfl (by kernel_rfl) (by kernel_rfl) (by kernel_rfl) rfl
theorem k94 (a0 : Den T85) : e94.f (a0) = i_OpState_copied (a0) := by kernel_rfl
noncomputable def n94 : Ent Tryz.prog ⟨[.v T85],[T85],false⟩ := ⟨94, i_OpState_copied, fun a0 y hs h => e94.ok _ y hs ((k94 a0).trans h)⟩
noncomputable def e44 : Ent Tryz.prog ⟨[.v T24,.v T85,.v (.sl i6)],[T89],false⟩ := genE [⟨_,n92,none⟩,⟨_,n93,none⟩,⟨_,n94,none⟩] 44 _ [.c 6 (some 7)] [⟨13,[(.normal,⟨[(4,.one (.vp 0 0)),(6,.one (.vp 1 0)),(19,.one .b)],[.pk false T85v,.pk false T89]⟩,[])]⟩,⟨2,[(.normal,⟨[(6,.one (.vp 0 0)),(7,.one (.vp 1 0)),(26,.one (.i .i64))],[.pk false T89,.pk false T89]⟩,[]),(.exit 0,⟨[(6,.one (.vp 0 0)),(7,.one (.vp 1 0))],[.pk false T89,.pk false T89]⟩,[])]⟩] [T135] [] mo Tryz.func44 rfl rfl (by kernel_rfl) (by kernel_rfl) (by kernel_rfl) rfl
theorem k44 (a0 : Den T24) (a1 : Den T85) (a2 : Den (.sl i6)) : e44.f (a0, a1, a2) = i_TskNew (a0, a1, a2) := by kernel_rfl
noncomputable def n44 : Ent Tryz.prog ⟨[.v T24,.v T85,.v (.sl i6)],[T89],false⟩ := ⟨44, i_TskNew, fun ⟨a0,a1,a2⟩ y hs h => e44.ok _ y hs ((k44 a0 a1 a2).trans h)⟩
noncomputable def e7 : Ent Tryz.prog ⟨[.v T24,.v (.sl (.sl T124))],[T39],false⟩ := genE [⟨_,n38,none⟩,⟨_,n39,none⟩,⟨_,n40,none⟩,⟨_,n42,none⟩,⟨_,n43,none⟩,⟨_,n44,none⟩] 7 _ [.c 4 (some 22)] [⟨12,[(.normal,⟨[(2,.one (.vp 0 0)),(4,.one (.vp 1 0)),(19,.one .b)],[.pk false T24,.pk false T39]⟩,[])]⟩,⟨2,[(.normal,⟨[(2,.one (.vp 0 0)),(4,.one (.vp 1 0)),(5,.one (.vp 2 0)),(35,.one (.i .i64))],[.pk false T24,.pk false T39,.pk false T39]⟩,[]),(.exit 0,⟨[(4,.one (.vp 0 0)),(5,.one (.vp 1 0))],[.pk false T39,.pk false T39]⟩,[])]⟩] [i6,T89,T56,T97] [] mo Tryz.func7 rfl rfl (by kernel_rfl) (by kernel_rfl) (by kernel_rfl) rfl
theorem k7 (a0 : Den T24) (a1 : Den (.sl (.sl T124))) : e7.f (a0, a1) = i_FloNew (a0, a1) := by kernel_rfl
noncomputable def n7 : Ent Tryz.prog ⟨[.v T24,.v (.sl (.sl T124))],[T39],false⟩ := ⟨7, i_FloNew, fun ⟨a0,a1⟩ y hs h => e7.ok _ y hs ((k7 a0 a1).trans h)⟩
noncomputable def e77 : Ent Tryz.prog ⟨[.v i6,.v i6,.v i6],[.bool],false⟩ := genE [] 77 _ [.t 6] [] [] [] mo Tryz.func77 rfl rfl (by kernel_rfl) (by kernel_rfl) (by kernel_rfl) rfl
theorem k77 (a0 : Den i6) (a1 : Den i6) (a2 : Den i6) : e77.f (a0, a1, a2) = s_l1In (a0, a1, a2) := by kernel_rfl
noncomputable def n77 : Ent Tryz.prog ⟨[.v i6,.v i6,.v i6],[.bool],false⟩ := ⟨77, s_l1In, fun ⟨a0,a1,a2⟩ y hs h => e77.ok _ y hs ((k77 a0 a1 a2).trans h)⟩
noncomputable def e47 : Ent Tryz.prog ⟨[.v T24],[.bool],false⟩ := genE [⟨_,n77,none⟩] 47 _ [.t 2] [⟨6,[(.normal,⟨[(1,.one (.vp 0 0)),(24,.one .b)],[.pk false T24]⟩,[])]⟩,⟨3,[(.normal,⟨[(1,.one (.vp 0 0)),(53,.one .b)],[.pk false T24]⟩,[])]⟩] [] [] mo Tryz.func47 rfl rfl (by kernel_rfl) (by kernel_rfl) (by kernel_rfl) rfl
theorem k47 (a0 : Den T24) : e47.f (a0) = s_JobOk (a0) := by kernel_rfl
noncomputable def n47 : Ent Tryz.prog ⟨[.v T24],[.bool],false⟩ := ⟨47, s_JobOk, fun a0 y hs h => e47.ok _ y hs ((k47 a0).trans h)⟩
noncomputable def e99 : Ent Tryz.prog ⟨[.v T24],[(.sl i6),(.sl .bool),(.sl T119)],false⟩ := genE [] 99 _ [.t 2,.t 3,.t 4] [⟨11,[(.normal,⟨[(1,.one (.vp 0 0)),(5,.one (.ref 1)),(6,.one (.ref 2)),(7,.one (.ref 3)),(8,.one (.i .i64))],[.pk false T24,.sl i6,.sl .bool,.sl T119]⟩,[]),(.exit 0,⟨[(1,.one (.vp 0 0)),(5,.one (.ref 1)),(6,.one (.ref 2)),(7,.one (.ref 3))],[.pk false T24,.sl i6,.sl .bool,.sl T119]⟩,[])]⟩,⟨2,[(.normal,⟨[(1,.one (.vp 0 0)),(5,.one (.ref 1)),(6,.one (.ref 2)),(7,.one (.ref 3)),(9,.one (.i .i64))],[.pk false T24,.sl i6,.sl .bool,.sl T119]⟩,[]),(.exit 2,⟨[(5,.one (.ref 0)),(6,.one (.ref 1)),(7,.one (.ref 2))],[.sl i6,.sl .bool,.sl T119]⟩,[])]⟩] [T119,.bool,i6,T119,.bool,i6] [] mo Tryz.func99 rfl rfl (by kernel_rfl) (by kernel_rfl) (by kernel_rfl) rfl
theorem k99 (a0 : Den T24) : e99.f (a0) = s_l9Nobody (a0) := by kernel_rfl
noncomputable def n99 : Ent Tryz.prog ⟨[.v T24],[(.sl i6),(.sl .bool),(.sl T119)],false⟩ := ⟨99, s_l9Nobody, fun a0 y hs h => e99.ok _ y hs ((k99 a0).trans h)⟩
noncomputable def e48 : Ent Tryz.prog ⟨[.v T24],[T37],false⟩ := genE [⟨_,n47,none⟩,⟨_,n99,none⟩] 48 _ [.c 2 (some 8)] [⟨10,[(.normal,⟨[(1,.one (.vp 0 0)),(2,.one (.vp 1 0)),(6,.one (.vp 2 0)),(7,.one (.i .i64))],[.pk false T24,.pk false T37,.pk false T37]⟩,[]),(.exit 0,⟨[(1,.one (.vp 0 0)),(2,.one (.vp 1 0)),(6,.one (.vp 2 0))],[.pk false T24,.pk false T37,.pk false T37]⟩,[])]⟩,⟨2,[(.normal,⟨[(1,.one (.vp 0 0)),(2,.one (.vp 1 0)),(6,.one (.vp 2 0)),(8,.one (.i .i64))],[.pk false T24,.pk false T37,.pk false T37]⟩,[]),(.exit 2,⟨[(2,.one (.vp 0 0)),(6,.one (.vp 1 0))],[.pk false T37,.pk false T37]⟩,[])]⟩] [i6,T119,i6] [] mo Tryz.func48 rfl rfl (by kernel_rfl) (by kernel_rfl) (by kernel_rfl) rfl
theorem k48 (a0 : Den T24) : e48.f (a0) = s_CkpNew (a0) := by kernel_rfl
noncomputable def n48 : Ent Tryz.prog ⟨[.v T24],[T37],false⟩ := ⟨48, s_CkpNew, fun a0 y hs h => e48.ok _ y hs ((k48 a0).trans h)⟩
noncomputable def e100 : Ent Tryz.prog ⟨[.v T124],[.bool],false⟩ := genE [⟨_,n77,none⟩] 100 _ [.t 2] [⟨2,[(.ret,⟨[(2,.one .b)],[]⟩,[]),(.normal,⟨[(1,.one (.vp 0 0))],[.pk false T124]⟩,[])]⟩] [] [] mo Tryz.func100 rfl rfl (by kernel_rfl) (by kernel_rfl) (by kernel_rfl) rfl
theorem k100 (a0 : Den T124) : e100.f (a0) = s_ItmOk (a0) := by kernel_rfl
noncomputable def n100 : Ent Tryz.prog ⟨[.v T124],[.bool],false⟩ := ⟨100, s_ItmOk, fun a0 y hs h => e100.ok _ y hs ((k100 a0).trans h)⟩
noncomputable def e49 : Ent Tryz.prog ⟨[.v (.sl T124)],[.bool],false⟩ := genE [⟨_,n77,none⟩,⟨_,n100,none⟩] 49 _ [.t 2] [⟨20,[(.normal,⟨[(18,.one .b)],[]⟩,[])]⟩,⟨13,[(.normal,⟨[(38,.one .b)],[]⟩,[])]⟩,⟨4,[(.ret,⟨[(2,.one .b)],[]⟩,[]),(.normal,⟨[(3,.one (.i .i64))],[]⟩,[])]⟩,⟨2,[(.normal,⟨[(3,.one (.i .i64)),(4,.one (.i .i64))],[]⟩,[]),(.ret,⟨[(2,.one .b)],[]⟩,[]),(.exit 0,⟨[],[]⟩,[])]⟩] [] [] mo Tryz.func49 rfl rfl (by kernel_rfl) (by kernel_rfl) (by kernel_rfl) rfl
theorem k49 (a0 : Den (.sl T124)) : e49.f (a0) = s_LogOk (a0) := by kernel_rfl
noncomputable def n49 : Ent Tryz.prog ⟨[.v (.sl T124)],[.bool],false⟩ := ⟨49, s_LogOk, fun a0 y hs h => e49.ok _ y hs ((k49 a0).trans h)⟩
noncomputable def e121 : Ent Tryz.prog ⟨[.v T56],[.bool],false⟩ := genE [⟨_,n77,none⟩] 121 _ [.t 2] [] [] [] mo Tryz.func121 rfl rfl (by kernel_rfl) (by kernel_rfl) (by kernel_rfl) rfl
theorem k121 (a0 : Den T56) : e121.f (a0) = s_WinOk (a0) := by kernel_rfl
noncomputable def n121 : Ent Tryz.prog ⟨[.v T56],[.bool],false⟩ := ⟨121, s_WinOk, fun a0 y hs h => e121.ok _ y hs ((k121 a0).trans h)⟩
noncomputable def e122 : Ent Tryz.prog ⟨[.v T58],[.bool],false⟩ := genE [⟨_,n77,none⟩] 122 _ [.t 2] [] [] [] mo Tryz.func122 rfl rfl (by kernel_rfl) (by kernel_rfl) (by kernel_rfl) rfl
theorem k122 (a0 : Den T58) : e122.f (a0) = s_AggOk (a0) := by kernel_rfl
noncomputable def n122 : Ent Tryz.prog ⟨[.v T58],[.bool],false⟩ := ⟨122, s_AggOk, fun a0 y hs h => e122.ok _ y hs ((k122 a0).trans h)⟩
noncomputable def e145 : Ent Tryz.prog ⟨[.v T24,.v T163,.v i6],[.bool],false⟩ := genE [⟨_,n77,none⟩,⟨_,n121,none⟩,⟨_,n122,none⟩] 145 _ [.t 6] [⟨3,[(.normal,⟨[(3,.one (.vp 0 0)),(4,.one (.vp 1 0)),(49,.one .b)],[.pk false T24,.pk false T163]⟩,[])]⟩] [] [] mo Tryz.func145 rfl rfl (by kernel_rfl) (by kernel_rfl) (by kernel_rfl) rfl
theorem k145 (a0 : Den T24) (a1 : Den T163) (a2 : Den i6) : e145.f (a0, a1, a2) = s_l7Row (a0, a1, a2) := by kernel_rfl
noncomputable def n145 : Ent Tryz.prog ⟨[.v T24,.v T163,.v i6],[.bool],false⟩ := ⟨145, s_l7Row, fun ⟨a0,a1,a2⟩ y hs h => e145.ok _ y hs ((k145 a0 a1 a2).trans h)⟩
noncomputable def e185 : Ent Tryz.prog ⟨[.v T56,.v T56],[.bool],false⟩ := genE [] 185 _ [.t 4] [] [] [] mo Tryz.func185 rfl rfl (by kernel_rfl) (by kernel_rfl) (by kernel_rfl) rfl
theorem k185 (a0 : Den T56) (a1 : Den T56) : e185.f (a0, a1) = s_l2Less (a0, a1) := by kernel_rfl
noncomputable def n185 : Ent Tryz.prog ⟨[.v T56,.v T56],[.bool],false⟩ := ⟨185, s_l2Less, fun ⟨a0,a1⟩ y hs h => e185.ok _ y hs ((k185 a0 a1).trans h)⟩
noncomputable def e146 : Ent Tryz.prog ⟨[.v i6,.v T56,.v i6,.v T56],[.bool],false⟩ := genE [⟨_,n185,none⟩] 146 _ [.t 8] [] [] [] mo Tryz.func146 rfl rfl (by kernel_rfl) (by kernel_rfl) (by kernel_rfl) rfl
theorem k146 (a0 : Den i6) (a1 : Den T56) (a2 : Den i6) (a3 : Den T56) : e146.f (a0, a1, a2, a3) = s_l5Ahead (a0, a1, a2, a3) := by kernel_rfl
noncomputable def n146 : Ent Tryz.prog ⟨[.v i6,.v T56,.v i6,.v T56],[.bool],false⟩ := ⟨146, s_l5Ahead, fun ⟨a0,a1,a2,a3⟩ y hs h => e146.ok _ y hs ((k146 a0 a1 a2 a3).trans h)⟩
noncomputable def e147 : Ent Tryz.prog ⟨[.v T56,.v T56],[.bool],false⟩ := genE [] 147 _ [.t 4] [] [] [] mo Tryz.func147 rfl rfl (by kernel_rfl) (by kernel_rfl) (by kernel_rfl) rfl
theorem k147 (a0 : Den T56) (a1 : Den T56) : e147.f (a0, a1) = s_WinTouch (a0, a1) := by kernel_rfl
noncomputable def n147 : Ent Tryz.prog ⟨[.v T56,.v T56],[.bool],false⟩ := ⟨147, s_WinTouch, fun ⟨a0,a1⟩ y hs h => e147.ok _ y hs ((k147 a0 a1).trans h)⟩
noncomputable def e101 : Ent Tryz.prog ⟨[.v T24,.v T85],[.bool],false⟩ := genE [⟨_,n47,none⟩,⟨_,n77,none⟩,⟨_,n145,none⟩,⟨_,n146,none⟩,⟨_,n147,none⟩] 101 _ [.t 4] [⟨24,[(.normal,⟨[(2,.one (.vp 0 0)),(3,.one (.vp 1 0)),(22,.one .b)],[.pk false T24,.pk false T85v]⟩,[])]⟩,⟨17,[(.normal,⟨[(2,.one (.vp 0 0)),(3,.one (.vp 1 0)),(6,.one (.vp 2 0)),(66,.one .b)],[.pk false T24,.pk false T85v,.pk false T163]⟩,[])]⟩,⟨13,[(.normal,⟨[(2,.one (.vp 0 0)),(3,.one (.vp 1 0)),(6,.one (.vp 2 0)),(74,.one .b)],[.pk false T24,.pk false T85v,.pk false T163]⟩,[])]⟩,⟨11,[(.normal,⟨[(2,.one (.vp 0 0)),(3,.one (.vp 1 0)),(6,.one (.vp 2 0)),(96,.one .b)],[.pk false T24,.pk false T85v,.pk false T163]⟩,[])]⟩,⟨6,[(.normal,⟨[(2,.one (.vp 0 0)),(3,.one (.vp 1 0)),(6,.one (.vp 2 0)),(7,.one (.i .i64))],[.pk false T24,.pk false T85v,.pk false T163]⟩,[]),(.ret,⟨[(4,.one .b)],[]⟩,[]),(.exit 2,⟨[(2,.one (.vp 0 0)),(3,.one (.vp 1 0))],[.pk false T24,.pk false T85v]⟩,[])]⟩,⟨4,[(.ret,⟨[(4,.one .b)],[]⟩,[]),(.normal,⟨[(2,.one (.vp 0 0)),(3,.one (.vp 1 0))],[.pk false T24,.pk false T85v]⟩,[])]⟩,⟨2,[(.normal,⟨[(2,.one (.vp 0 0)),(3,.one (.vp 1 0)),(5,.one (.i .i64))],[.pk false T24,.pk false T85v]⟩,[]),(.ret,⟨[(4,.one .b)],[]⟩,[]),(.exit 0,⟨[],[]⟩,[])]⟩] [] [] mo Tryz.func101 rfl rfl (by kernel_rfl) (by kernel_rfl) (by kernel_rfl) rfl
theorem k101 (a0 : Den T24) (a1 : Den T85) : e101.f (a0, a1) = s_OpOk (a0, a1) := by kernel_rfl
noncomputable def n101 : Ent Tryz.prog ⟨[.v T24,.v T85],[.bool],false⟩ := ⟨101, s_OpOk, fun ⟨a0,a1⟩ y hs h => e101.ok _ y hs ((k101 a0 a1).trans h)⟩
noncomputable def e102 : Ent Tryz.prog ⟨[.v T85],[T85],false⟩ := genE [] 102 _ [.c 2 (some 2)] [] [T163] [] mo Tryz.func102 rfl rfl (by kernel_rfl) (by kernel_rfl) (by kernel_rfl) rfl
theorem k102 (a0 : Den T85) : e102.f (a0) = s_l7Copy (a0) := by kernel_rfl
noncomputable def n102 : Ent Tryz.prog ⟨[.v T85],[T85],false⟩ := ⟨102, s_l7Copy, fun a0 y hs h => e102.ok _ y hs ((k102 a0).trans h)⟩
noncomputable def e50 : Ent Tryz.prog ⟨[.v T24,.v T85,.v (.sl i6)],[T89],false⟩ := genE [⟨_,n101,none⟩,⟨_,n102,none⟩,⟨_,n77,none⟩] 50 _ [.c 6 (some 7)] [⟨15,[(.normal,⟨[(3,.one (.vp 0 0)),(4,.one (.vp 1 0)),(6,.one (.vp 2 0)),(19,.one .b)],[.pk false T24,.pk false T85v,.pk false T89]⟩,[])]⟩,⟨2,[(.normal,⟨[(3,.one (.vp 0 0)),(6,.one (.vp 1 0)),(7,.one (.vp 2 0)),(8,.one (.i .i64))],[.pk false T24,.pk false T89,.pk false T89]⟩,[]),(.ret,⟨[(6,.one (.vp 0 0))],[.pk false T89]⟩,[]),(.exit 0,⟨[(6,.one (.vp 0 0)),(7,.one (.vp 1 0))],[.pk false T89,.pk false T89]⟩,[])]⟩] [T135] [] mo Tryz.func50 rfl rfl (by kernel_rfl) (by kernel_rfl) (by kernel_rfl) rfl
theorem k50 (a0 : Den T24) (a1 : Den T85) (a2 : Den (.sl i6)) : e50.f (a0, a1, a2) = s_TskNew (a0, a1, a2) := by kernel_rfl
noncomputable def n50 : Ent Tryz.prog ⟨[.v T24,.v T85,.v (.sl i6)],[T89],false⟩ := ⟨50, s_TskNew, fun ⟨a0,a1,a2⟩ y hs h => e50.ok _ y hs ((k50 a0 a1 a2).trans h)⟩
noncomputable def e9 : Ent Tryz.prog ⟨[.v T24,.v (.sl (.sl T124))],[T39s],false⟩ := genE [⟨_,n47,none⟩,⟨_,n48,none⟩,⟨_,n49,none⟩,⟨_,n50,none⟩] 9 _ [.c 4 (some 22)] [⟨25,[(.normal,⟨[(2,.one (.vp 0 0)),(4,.one (.vp 1 0)),(17,.one .b)],[.pk false T24,.pk false T39s]⟩,[])]⟩,⟨11,[(.normal,⟨[(2,.one (.vp 0 0)),(4,.one (.vp 1 0)),(5,.one (.vp 2 0)),(6,.one (.i .i64))],[.pk false T24,.pk false T39s,.pk false T39s]⟩,[]),(.ret,⟨[(4,.one (.vp 0 0))],[.pk false T39s]⟩,[]),(.exit 0,⟨[(2,.one (.vp 0 0)),(4,.one (.vp 1 0)),(5,.one (.vp 2 0))],[.pk false T24,.pk false T39s,.pk false T39s]⟩,[])]⟩,⟨2,[(.normal,⟨[(2,.one (.vp 0 0)),(4,.one (.vp 1 0)),(5,.one (.vp 2 0)),(7,.one (.i .i64))],[.pk false T24,.pk false T39s,.pk false T39s]⟩,[]),(.exit 2,⟨[(4,.one (.vp 0 0)),(5,.one (.vp 1 0))],[.pk false T39s,.pk false T39s]⟩,[])]⟩] [T97s,i6,T89,T56,T124,(.sl T124)] [] mo Tryz.func9 rfl rfl (by kernel_rfl) (by kernel_rfl) (by kernel_rfl) rfl
theorem k9 (a0 : Den T24) (a1 : Den (.sl (.sl T124))) : e9.f (a0, a1) = s_FloNew (a0, a1) := by kernel_rfl
noncomputable def n9 : Ent Tryz.prog ⟨[.v T24,.v (.sl (.sl T124))],[T39s],false⟩ := ⟨9, s_FloNew, fun ⟨a0,a1⟩ y hs h => e9.ok _ y hs ((k9 a0 a1).trans h)⟩
noncomputable def e58 : Ent Tryz.prog ⟨[.v (.sl T124),.v (.sl T124)],[.bool],false⟩ := genE [] 58 _ [.t 4] [⟨2,[(.normal,⟨[(5,.one (.i .i64))],[]⟩,[]),(.ret,⟨[(4,.one .b)],[]⟩,[]),(.exit 0,⟨[],[]⟩,[])]⟩] [] [] mo Tryz.func58 rfl rfl (by kernel_rfl) (by kernel_rfl) (by kernel_rfl) rfl
theorem k58 (a0 : Den (.sl T124)) (a1 : Den (.sl T124)) : e58.f (a0, a1) = l_frItems (a0, a1) := by kernel_rfl
noncomputable def n58 : Ent Tryz.prog ⟨[.v (.sl T124),.v (.sl T124)],[.bool],false⟩ := ⟨58, l_frItems, fun ⟨a0,a1⟩ y hs h => e58.ok _ y hs ((k58 a0 a1).trans h)⟩
noncomputable def e16 : Ent Tryz.prog ⟨[.v (.sl (.sl T124)),.v (.sl (.sl T124))],[.bool],false⟩ := genE [⟨_,n58,none⟩] 16 _ [.t 4] [⟨2,[(.normal,⟨[(5,.one (.i .i64))],[]⟩,[]),(.ret,⟨[(4,.one .b)],[]⟩,[]),(.exit 0,⟨[],[]⟩,[])]⟩] [] [] mo Tryz.func16 rfl rfl (by kernel_rfl) (by kernel_rfl) (by kernel_rfl) rfl
theorem k16 (a0 : Den (.sl (.sl T124))) (a1 : Den (.sl (.sl T124))) : e16.f (a0, a1) = l_frLogs (a0, a1) := by kernel_rfl
noncomputable def n16 : Ent Tryz.prog ⟨[.v (.sl (.sl T124)),.v (.sl (.sl T124))],[.bool],false⟩ := ⟨16, l_frLogs, fun ⟨a0,a1⟩ y hs h => e16.ok _ y hs ((k16 a0 a1).trans h)⟩
noncomputable def e96 : Ent Tryz.prog ⟨[.v (.sl T60),.v (.sl T60)],[.bool],false⟩ := genE [] 96 _ [.t 4] [⟨2,[(.normal,⟨[(5,.one (.i .i64))],[]⟩,[]),(.ret,⟨[(4,.one .b)],[]⟩,[]),(.exit 0,⟨[],[]⟩,[])]⟩] [] [] mo Tryz.func96 rfl rfl (by kernel_rfl) (by kernel_rfl) (by kernel_rfl) rfl
theorem k96 (a0 : Den (.sl T60)) (a1 : Den (.sl T60)) : e96.f (a0, a1) = l_frPanes (a0, a1) := by kernel_rfl
noncomputable def n96 : Ent Tryz.prog ⟨[.v (.sl T60),.v (.sl T60)],[.bool],false⟩ := ⟨96, l_frPanes, fun ⟨a0,a1⟩ y hs h => e96.ok _ y hs ((k96 a0 a1).trans h)⟩
noncomputable def e97 : Ent Tryz.prog ⟨[.v (.sl T176),.v (.sl T176)],[.bool],false⟩ := genE [] 97 _ [.t 4] [⟨2,[(.normal,⟨[(5,.one (.i .i64))],[]⟩,[]),(.ret,⟨[(4,.one .b)],[]⟩,[]),(.exit 0,⟨[],[]⟩,[])]⟩] [] [] mo Tryz.func97 rfl rfl (by kernel_rfl) (by kernel_rfl) (by kernel_rfl) rfl
theorem k97 (a0 : Den (.sl T176)) (a1 : Den (.sl T176)) : e97.f (a0, a1) = l_frLates (a0, a1) := by kernel_rfl
noncomputable def n97 : Ent Tryz.prog ⟨[.v (.sl T176),.v (.sl T176)],[.bool],false⟩ := ⟨97, l_frLates, fun ⟨a0,a1⟩ y hs h => e97.ok _ y hs ((k97 a0 a1).trans h)⟩
noncomputable def e98 : Ent Tryz.prog ⟨[.v T87,.v T87],[.bool],false⟩ := genE [⟨_,n96,none⟩,⟨_,n97,none⟩] 98 _ [.t 4] [] [] [] mo Tryz.func98 rfl rfl (by kernel_rfl) (by kernel_rfl) (by kernel_rfl) rfl
theorem k98 (a0 : Den T87) (a1 : Den T87) : e98.f (a0, a1) = l_frTxn (a0, a1) := by kernel_rfl
noncomputable def n98 : Ent Tryz.prog ⟨[.v T87,.v T87],[.bool],false⟩ := ⟨98, l_frTxn, fun ⟨a0,a1⟩ y hs h => e98.ok _ y hs ((k98 a0 a1).trans h)⟩
noncomputable def e95 : Ent Tryz.prog ⟨[.v (.sl T87),.v (.sl T87)],[.bool],false⟩ := genE [⟨_,n98,none⟩] 95 _ [.t 4] [⟨2,[(.normal,⟨[(5,.one (.i .i64))],[]⟩,[]),(.ret,⟨[(4,.one .b)],[]⟩,[]),(.exit 0,⟨[],[]⟩,[])]⟩] [] [] mo Tryz.func95 rfl rfl (by kernel_rfl) (by kernel_rfl) (by kernel_rfl) rfl
theorem k95 (a0 : Den (.sl T87)) (a1 : Den (.sl T87)) : e95.f (a0, a1) = l_frTxns (a0, a1) := by kernel_rfl
noncomputable def n95 : Ent Tryz.prog ⟨[.v (.sl T87),.v (.sl T87)],[.bool],false⟩ := ⟨95, l_frTxns, fun ⟨a0,a1⟩ y hs h => e95.ok _ y hs ((k95 a0 a1).trans h)⟩
noncomputable def e45 : Ent Tryz.prog ⟨[.v (.sl T97),.v (.sl T97)],[.bool],false⟩ := genE [⟨_,n95,none⟩,⟨_,n96,none⟩,⟨_,n97,none⟩] 45 _ [.t 4] [⟨7,[(.normal,⟨[(69,.one .b)],[]⟩,[])]⟩,⟨2,[(.normal,⟨[(5,.one (.i .i64))],[]⟩,[]),(.ret,⟨[(4,.one .b)],[]⟩,[]),(.exit 0,⟨[],[]⟩,[])]⟩] [] [] mo Tryz.func45 rfl rfl (by kernel_rfl) (by kernel_rfl) (by kernel_rfl) rfl
theorem k45 (a0 : Den (.sl T97)) (a1 : Den (.sl T97)) : e45.f (a0, a1) = l_frSinks (a0, a1) := by kernel_rfl
noncomputable def n45 : Ent Tryz.prog ⟨[.v (.sl T97),.v (.sl T97)],[.bool],false⟩ := ⟨45, l_frSinks, fun ⟨a0,a1⟩ y hs h => e45.ok _ y hs ((k45 a0 a1).trans h)⟩
noncomputable def e29 : Ent Tryz.prog ⟨[.v (.sl i6),.v (.sl i6)],[.bool],false⟩ := genE [] 29 _ [.t 4] [⟨2,[(.normal,⟨[(5,.one (.i .i64))],[]⟩,[]),(.ret,⟨[(4,.one .b)],[]⟩,[]),(.exit 0,⟨[],[]⟩,[])]⟩] [] [] mo Tryz.func29 rfl rfl (by kernel_rfl) (by kernel_rfl) (by kernel_rfl) rfl
theorem k29 (a0 : Den (.sl i6)) (a1 : Den (.sl i6)) : e29.f (a0, a1) = l_frInts (a0, a1) := by kernel_rfl
noncomputable def n29 : Ent Tryz.prog ⟨[.v (.sl i6),.v (.sl i6)],[.bool],false⟩ := ⟨29, l_frInts, fun ⟨a0,a1⟩ y hs h => e29.ok _ y hs ((k29 a0 a1).trans h)⟩
noncomputable def e80 : Ent Tryz.prog ⟨[.v T85,.v T85],[.bool],false⟩ := genE [] 80 _ [.t 4] [⟨13,[(.normal,⟨[(2,.one (.vp 0 0)),(3,.one (.vp 1 0)),(19,.one .b)],[.pk false T85v,.pk false T85v]⟩,[])]⟩,⟨2,[(.normal,⟨[(2,.one (.vp 0 0)),(3,.one (.vp 1 0)),(5,.one (.i .i64))],[.pk false T85v,.pk false T85v]⟩,[]),(.ret,⟨[(4,.one .b)],[]⟩,[]),(.exit 0,⟨[],[]⟩,[])]⟩] [] [] mo Tryz.func80 rfl rfl (by kernel_rfl) (by kernel_rfl) (by kernel_rfl) rfl
theorem k80 (a0 : Den T85) (a1 : Den T85) : e80.f (a0, a1) = l_frOp (a0, a1) := by kernel_rfl
noncomputable def n80 : Ent Tryz.prog ⟨[.v T85,.v T85],[.bool],false⟩ := ⟨80, l_frOp, fun ⟨a0,a1⟩ y hs h => e80.ok _ y hs ((k80 a0 a1).trans h)⟩
noncomputable def e30 : Ent Tryz.prog ⟨[.v (.sl T119),.v (.sl T119)],[.bool],false⟩ := genE [⟨_,n80,none⟩,⟨_,n29,none⟩] 30 _ [.t 4] [⟨7,[(.normal,⟨[(42,.one .b)],[]⟩,[])]⟩,⟨2,[(.normal,⟨[(5,.one (.i .i64))],[]⟩,[]),(.ret,⟨[(4,.one .b)],[]⟩,[]),(.exit 0,⟨[],[]⟩,[])]⟩] [] [] mo Tryz.func30 rfl rfl (by kernel_rfl) (by kernel_rfl) (by kernel_rfl) rfl
theorem k30 (a0 : Den (.sl T119)) (a1 : Den (.sl T119)) : e30.f (a0, a1) = l_frSnaps (a0, a1) := by kernel_rfl
noncomputable def n30 : Ent Tryz.prog ⟨[.v (.sl T119),.v (.sl T119)],[.bool],false⟩ := ⟨30, l_frSnaps, fun ⟨a0,a1⟩ y hs h => e30.ok _ y hs ((k30 a0 a1).trans h)⟩
noncomputable def e25 : Ent Tryz.prog ⟨[.v T37,.v T37],[.bool],false⟩ := genE [⟨_,n29,none⟩,⟨_,n30,none⟩] 25 _ [.t 4] [⟨13,[(.normal,⟨[(2,.one (.vp 0 0)),(3,.one (.vp 1 0)),(71,.one .b)],[.pk false T37v,.pk false T37v]⟩,[])]⟩,⟨2,[(.normal,⟨[(2,.one (.vp 0 0)),(3,.one (.vp 1 0)),(5,.one (.i .i64))],[.pk false T37v,.pk false T37v]⟩,[]),(.ret,⟨[(4,.one .b)],[]⟩,[]),(.exit 0,⟨[],[]⟩,[])]⟩] [] [] mo Tryz.func25 rfl rfl (by kernel_rfl) (by kernel_rfl) (by kernel_rfl) rfl
theorem k25 (a0 : Den T37) (a1 : Den T37) : e25.f (a0, a1) = l_frCkp (a0, a1) := by kernel_rfl
noncomputable def n25 : Ent Tryz.prog ⟨[.v T37,.v T37],[.bool],false⟩ := ⟨25, l_frCkp, fun ⟨a0,a1⟩ y hs h => e25.ok _ y hs ((k25 a0 a1).trans h)⟩
noncomputable def e46 : Ent Tryz.prog ⟨[.v T89,.v T89],[.bool],false⟩ := genE [⟨_,n80,none⟩,⟨_,n98,none⟩,⟨_,n58,none⟩] 46 _ [.t 4] [⟨13,[(.normal,⟨[(2,.one (.vp 0 0)),(3,.one (.vp 1 0)),(35,.one .b)],[.pk false T89v,.pk false T89v]⟩,[])]⟩,⟨7,[(.normal,⟨[(2,.one (.vp 0 0)),(3,.one (.vp 1 0)),(86,.one .b)],[.pk false T89v,.pk false T89v]⟩,[])]⟩,⟨2,[(.normal,⟨[(2,.one (.vp 0 0)),(3,.one (.vp 1 0)),(5,.one (.i .i64))],[.pk false T89v,.pk false T89v]⟩,[]),(.ret,⟨[(4,.one .b)],[]⟩,[]),(.exit 0,⟨[],[]⟩,[])]⟩] [] [] mo Tryz.func46 rfl rfl (by kernel_rfl) (by kernel_rfl) (by kernel_rfl) rfl
theorem k46 (a0 : Den T89) (a1 : Den T89) : e46.f (a0, a1) = l_frTask (a0, a1) := by kernel_rfl
noncomputable def n46 : Ent Tryz.prog ⟨[.v T89,.v T89],[.bool],false⟩ := ⟨46, l_frTask, fun ⟨a0,a1⟩ y hs h => e46.ok _ y hs ((k46 a0 a1).trans h)⟩
noncomputable def e8 : Ent Tryz.prog ⟨[.v T39,.v T39],[.bool],false⟩ := genE [⟨_,n16,none⟩,⟨_,n45,none⟩,⟨_,n25,none⟩,⟨_,n46,none⟩] 8 _ [.t 4] [⟨23,[(.normal,⟨[(2,.one (.vp 0 0)),(3,.one (.vp 1 0)),(53,.one .b)],[.pk false T39v,.pk false T39v]⟩,[])]⟩,⟨12,[(.normal,⟨[(2,.one (.vp 0 0)),(3,.one (.vp 1 0)),(5,.one (.i .i64))],[.pk false T39v,.pk false T39v]⟩,[]),(.ret,⟨[(4,.one .b)],[]⟩,[]),(.exit 0,⟨[(2,.one (.vp 0 0)),(3,.one (.vp 1 0))],[.pk false T39v,.pk false T39v]⟩,[])]⟩,⟨2,[(.normal,⟨[(2,.one (.vp 0 0)),(3,.one (.vp 1 0)),(6,.one (.i .i64))],[.pk false T39v,.pk false T39v]⟩,[]),(.ret,⟨[(4,.one .b)],[]⟩,[]),(.exit 2,⟨[],[]⟩,[])]⟩] [] [] mo Tryz.func8 rfl rfl (by kernel_rfl) (by kernel_rfl) (by kernel_rfl) rfl
theorem k8 (a0 : Den T39) (a1 : Den T39) : e8.f (a0, a1) = l_frFlow (a0, a1) := by kernel_rfl
noncomputable def n8 : Ent Tryz.prog ⟨[.v T39,.v T39],[.bool],false⟩ := ⟨8, l_frFlow, fun ⟨a0,a1⟩ y hs h => e8.ok _ y hs ((k8 a0 a1).trans h)⟩
noncomputable def e131 : Ent Tryz.prog ⟨[.v i6],[.bool],false⟩ := genE [⟨_,n51,none⟩] 131 _ [.t 2] [] [] [] mo Tryz.func131 rfl rfl (by kernel_rfl) (by kernel_rfl) (by kernel_rfl) rfl
theorem k131 (a0 : Den i6) : e131.f (a0) = i_CkpSafe_ok_1 (a0) := by kernel_rfl
noncomputable def n131 : Ent Tryz.prog ⟨[.v i6],[.bool],false⟩ := ⟨131, i_CkpSafe_ok_1, fun a0 y hs h => e131.ok _ y hs ((k131 a0).trans h)⟩
noncomputable def e135 : Ent Tryz.prog ⟨[.v (.sl i6)],[i6],false⟩ := genE [] 135 _ [.t 2] [⟨2,[(.normal,⟨[(3,.one (.i .i64)),(4,.one (.i .i64))],[]⟩,[]),(.exit 0,⟨[(3,.one (.i .i64))],[]⟩,[])]⟩] [] [] mo Tryz.func135 rfl rfl (by kernel_rfl) (by kernel_rfl) (by kernel_rfl) rfl
theorem k135 (a0 : Den (.sl i6)) : e135.f (a0) = g_Min_int (a0) := by kernel_rfl
noncomputable def n135 : Ent Tryz.prog ⟨[.v (.sl i6)],[i6],false⟩ := ⟨135, g_Min_int, fun a0 y hs h => e135.ok _ y hs ((k135 a0).trans h)⟩
noncomputable def e82 : Ent Tryz.prog ⟨[.v T119,.v T24],[.bool],false⟩ := genE [⟨_,n92,none⟩,⟨_,n93,none⟩,⟨_,n135,none⟩] 82 _ [.t 4] [] [] [] mo Tryz.func82 rfl rfl (by kernel_rfl) (by kernel_rfl) (by kernel_rfl) rfl
theorem k82 (a0 : Den T119) (a1 : Den T24) : e82.f (a0, a1) = i_CkpSnap_ok (a0, a1) := by kernel_rfl
noncomputable def n82 : Ent Tryz.prog ⟨[.v T119,.v T24],[.bool],false⟩ := ⟨82, i_CkpSnap_ok, fun ⟨a0,a1⟩ y hs h => e82.ok _ y hs ((k82 a0 a1).trans h)⟩
noncomputable def e132 : Ent Tryz.prog ⟨[.v T119,.rp T24],[.bool],false⟩ := genE [⟨_,n82,none⟩] 132 _ [.t 3] [] [] [] mo Tryz.func132 rfl rfl (by kernel_rfl) (by kernel_rfl) (by kernel_rfl) rfl
theorem k132 (a0 : Den T119) (a1 : Den T24) : e132.f (a0, a1) = i_CkpSafe_ok_2 (a0, a1) := by kernel_rfl
noncomputable def n132 : Ent Tryz.prog ⟨[.v T119,.rp T24],[.bool],false⟩ := ⟨132, i_CkpSafe_ok_2, fun ⟨a0,a1⟩ y hs h => e132.ok _ y hs ((k132 a0 a1).trans h)⟩
noncomputable def e179 : Ent Tryz.prog ⟨[.v (.sl T119),.f T119 .bool],[i6],false⟩ := genE [] 179 _ [.t 4] [⟨2,[(.normal,⟨[(8,.one (.i .i64))],[]⟩,[]),(.ret,⟨[(4,.one (.i .i64))],[]⟩,[]),(.exit 0,⟨[],[]⟩,[])]⟩] [] [] mo Tryz.func179 rfl rfl (by kernel_rfl) (by kernel_rfl) (by kernel_rfl) rfl
theorem k179 (a0 : Den (.sl T119)) (a1 : Clo Tryz.prog T119 .bool) : e179.f (a0, a1) = g_IndexFunc_CkpSnap (a0, a1.p) := by kernel_rfl
noncomputable def n179 : Ent Tryz.prog ⟨[.v (.sl T119),.f T119 .bool],[i6],false⟩ := ⟨179, fun x => g_IndexFunc_CkpSnap (x.1, x.2.p), fun ⟨a0,a1⟩ y hs h => e179.ok _ y hs ((k179 a0 a1).trans h)⟩
noncomputable def e134 : Ent Tryz.prog ⟨[.v (.sl T119),.f T119 .bool],[.bool],false⟩ := genE [⟨_,n179,none⟩] 134 _ [.t 4] [] [] [] mo Tryz.func134 rfl rfl (by kernel_rfl) (by kernel_rfl) (by kernel_rfl) rfl
theorem k134 (a0 : Den (.sl T119)) (a1 : Clo Tryz.prog T119 .bool) : e134.f (a0, a1) = g_ContainsFunc_CkpSnap (a0, a1.p) := by kernel_rfl
noncomputable def n134 : Ent Tryz.prog ⟨[.v (.sl T119),.f T119 .bool],[.bool],false⟩ := ⟨134, fun x => g_ContainsFunc_CkpSnap (x.1, x.2.p), fun ⟨a0,a1⟩ y hs h => e134.ok _ y hs ((k134 a0 a1).trans h)⟩
noncomputable def e81 : Ent Tryz.prog ⟨[.v T35,.v T24],[.bool],false⟩ := genE [⟨_,n131,none⟩,⟨_,n132,none⟩,⟨_,n51,none⟩,⟨_,n133,none⟩,⟨_,n134,none⟩] 81 _ [.t 4] [] [] [(1, [3])] mo Tryz.func81 rfl rfl (by kernel_rfl) (by kernel_rfl) (by kernel_rfl) rfl
theorem k81 (a0 : Den T35) (a1 : Den T24) : e81.f (a0, a1) = i_CkpSafe_ok (a0, a1) := by kernel_rfl
noncomputable def n81 : Ent Tryz.prog ⟨[.v T35,.v T24],[.bool],false⟩ := ⟨81, i_CkpSafe_ok, fun ⟨a0,a1⟩ y hs h => e81.ok _ y hs ((k81 a0 a1).trans h)⟩
noncomputable def e83 : Ent Tryz.prog ⟨[.v T119],[.bool],false⟩ := genE [] 83 _ [.t 2] [] [] [] mo Tryz.func83 rfl rfl (by kernel_rfl) (by kernel_rfl) (by kernel_rfl) rfl
theorem k83 (a0 : Den T119) : e83.f (a0) = i_CkpSnap_empty (a0) := by kernel_rfl
noncomputable def n83 : Ent Tryz.prog ⟨[.v T119],[.bool],false⟩ := ⟨83, i_CkpSnap_empty, fun a0 y hs h => e83.ok _ y hs ((k83 a0).trans h)⟩
noncomputable def e31 : Ent Tryz.prog ⟨[.v T24,.v T37],[.bool],false⟩ := genE [⟨_,n38,none⟩,⟨_,n81,none⟩,⟨_,n51,none⟩,⟨_,n82,none⟩,⟨_,n83,none⟩] 31 _ [.t 4] [⟨28,[(.normal,⟨[(2,.one (.vp 0 0)),(3,.one (.vp 1 0)),(39,.one .b)],[.pk false T24,.pk false T37v]⟩,[])]⟩,⟨25,[(.normal,⟨[(2,.one (.vp 0 0)),(3,.one (.vp 1 0)),(61,.one .b)],[.pk false T24,.pk false T37v]⟩,[])]⟩,⟨18,[(.normal,⟨[(2,.one (.vp 0 0)),(3,.one (.vp 1 0)),(80,.one .b)],[.pk false T24,.pk false T37v]⟩,[])]⟩,⟨13,[(.normal,⟨[(2,.one (.vp 0 0)),(3,.one (.vp 1 0)),(65,.one (.i .i64))],[.pk false T24,.pk false T37v]⟩,[]),(.ret,⟨[(4,.one .b)],[]⟩,[]),(.exit 0,⟨[(2,.one (.vp 0 0)),(3,.one (.vp 1 0))],[.pk false T24,.pk false T37v]⟩,[])]⟩,⟨7,[(.normal,⟨[(2,.one (.vp 0 0)),(3,.one (.vp 1 0)),(118,.one .b)],[.pk false T24,.pk false T37v]⟩,[])]⟩,⟨2,[(.normal,⟨[(2,.one (.vp 0 0)),(3,.one (.vp 1 0)),(85,.one (.i .i64))],[.pk false T24,.pk false T37v]⟩,[]),(.ret,⟨[(4,.one .b)],[]⟩,[]),(.exit 2,⟨[],[]⟩,[])]⟩] [] [] mo Tryz.func31 rfl rfl (by kernel_rfl) (by kernel_rfl) (by kernel_rfl) rfl
theorem k31 (a0 : Den T24) (a1 : Den T37) : e31.f (a0, a1) = i_CkpOk (a0, a1) := by kernel_rfl
noncomputable def n31 : Ent Tryz.prog ⟨[.v T24,.v T37],[.bool],false⟩ := ⟨31, i_CkpOk, fun ⟨a0,a1⟩ y hs h => e31.ok _ y hs ((k31 a0 a1).trans h)⟩
noncomputable def e149 : Ent Tryz.prog ⟨[.v T124],[.bool],false⟩ := genE [⟨_,n89,none⟩] 149 _ [.t 2] [] [] [] mo Tryz.func149 rfl rfl (by kernel_rfl) (by kernel_rfl) (by kernel_rfl) rfl
theorem k149 (a0 : Den T124) : e149.f (a0) = i_TskIn_ok_1 (a0) := by kernel_rfl
noncomputable def n149 : Ent Tryz.prog ⟨[.v T124],[.bool],false⟩ := ⟨149, i_TskIn_ok_1, fun a0 y hs h => e149.ok _ y hs ((k149 a0).trans h)⟩
noncomputable def e186 : Ent Tryz.prog ⟨[.v (.sl T124),.f T124 .bool],[i6],false⟩ := genE [] 186 _ [.t 4] [⟨2,[(.normal,⟨[(8,.one (.i .i64))],[]⟩,[]),(.ret,⟨[(4,.one (.i .i64))],[]⟩,[]),(.exit 0,⟨[],[]⟩,[])]⟩] [] [] mo Tryz.func186 rfl rfl (by kernel_rfl) (by kernel_rfl) (by kernel_rfl) rfl
theorem k186 (a0 : Den (.sl T124)) (a1 : Clo Tryz.prog T124 .bool) : e186.f (a0, a1) = g_IndexFunc_ItmItem (a0, a1.p) := by kernel_rfl
noncomputable def n186 : Ent Tryz.prog ⟨[.v (.sl T124),.f T124 .bool],[i6],false⟩ := ⟨186, fun x => g_IndexFunc_ItmItem (x.1, x.2.p), fun ⟨a0,a1⟩ y hs h => e186.ok _ y hs ((k186 a0 a1).trans h)⟩
noncomputable def e150 : Ent Tryz.prog ⟨[.v (.sl T124),.f T124 .bool],[.bool],false⟩ := genE [⟨_,n186,none⟩] 150 _ [.t 4] [] [] [] mo Tryz.func150 rfl rfl (by kernel_rfl) (by kernel_rfl) (by kernel_rfl) rfl
theorem k150 (a0 : Den (.sl T124)) (a1 : Clo Tryz.prog T124 .bool) : e150.f (a0, a1) = g_ContainsFunc_ItmItem (a0, a1.p) := by kernel_rfl
noncomputable def n150 : Ent Tryz.prog ⟨[.v (.sl T124),.f T124 .bool],[.bool],false⟩ := ⟨150, fun x => g_ContainsFunc_ItmItem (x.1, x.2.p), fun ⟨a0,a1⟩ y hs h => e150.ok _ y hs ((k150 a0 a1).trans h)⟩
noncomputable def e105 : Ent Tryz.prog ⟨[.v T135,.v T24],[.bool],false⟩ := genE [⟨_,n149,none⟩,⟨_,n137,none⟩,⟨_,n150,none⟩] 105 _ [.t 4] [] [] [] mo Tryz.func105 rfl rfl (by kernel_rfl) (by kernel_rfl) (by kernel_rfl) rfl
theorem k105 (a0 : Den T135) (a1 : Den T24) : e105.f (a0, a1) = i_TskIn_ok (a0, a1) := by kernel_rfl
noncomputable def n105 : Ent Tryz.prog ⟨[.v T135,.v T24],[.bool],false⟩ := ⟨105, i_TskIn_ok, fun ⟨a0,a1⟩ y hs h => e105.ok _ y hs ((k105 a0 a1).trans h)⟩
noncomputable def e104 : Ent Tryz.prog ⟨[.v T135,.rp T24],[.bool],false⟩ := genE [⟨_,n105,none⟩] 104 _ [.t 3] [] [] [] mo Tryz.func104 rfl rfl (by kernel_rfl) (by kernel_rfl) (by kernel_rfl) rfl
theorem k104 (a0 : Den T135) (a1 : Den T24) : e104.f (a0, a1) = i_TskOk__1 (a0, a1) := by kernel_rfl
noncomputable def n104 : Ent Tryz.prog ⟨[.v T135,.rp T24],[.bool],false⟩ := ⟨104, i_TskOk__1, fun ⟨a0,a1⟩ y hs h => e104.ok _ y hs ((k104 a0 a1).trans h)⟩
noncomputable def e148 : Ent Tryz.prog ⟨[.v (.sl T135),.f T135 .bool],[i6],false⟩ := genE [] 148 _ [.t 4] [⟨2,[(.normal,⟨[(8,.one (.i .i64))],[]⟩,[]),(.ret,⟨[(4,.one (.i .i64))],[]⟩,[]),(.exit 0,⟨[],[]⟩,[])]⟩] [] [] mo Tryz.func148 rfl rfl (by kernel_rfl) (by kernel_rfl) (by kernel_rfl) rfl
theorem k148 (a0 : Den (.sl T135)) (a1 : Clo Tryz.prog T135 .bool) : e148.f (a0, a1) = g_IndexFunc_TskIn (a0, a1.p) := by kernel_rfl
noncomputable def n148 : Ent Tryz.prog ⟨[.v (.sl T135),.f T135 .bool],[i6],false⟩ := ⟨148, fun x => g_IndexFunc_TskIn (x.1, x.2.p), fun ⟨a0,a1⟩ y hs h => e148.ok _ y hs ((k148 a0 a1).trans h)⟩
noncomputable def e103 : Ent Tryz.prog ⟨[.v (.sl T135),.f T135 .bool],[.bool],false⟩ := genE [⟨_,n148,none⟩] 103 _ [.t 4] [] [] [] mo Tryz.func103 rfl rfl (by kernel_rfl) (by kernel_rfl) (by kernel_rfl) rfl
theorem k103 (a0 : Den (.sl T135)) (a1 : Clo Tryz.prog T135 .bool) : e103.f (a0, a1) = g_ContainsFunc_TskIn (a0, a1.p) := by kernel_rfl
noncomputable def n103 : Ent Tryz.prog ⟨[.v (.sl T135),.f T135 .bool],[.bool],false⟩ := ⟨103, fun x => g_ContainsFunc_TskIn (x.1, x.2.p), fun ⟨a0,a1⟩ y hs h => e103.ok _ y hs ((k103 a0 a1).trans h)⟩
noncomputable def e106 : Ent Tryz.prog ⟨[.v T89],[i6],false⟩ := genE [] 106 _ [.t 2] [⟨5,[(.normal,⟨[(3,.one (.i .i64))],[]⟩,[])]⟩,⟨2,[(.normal,⟨[(3,.one (.i .i64)),(9,.one (.i .i64))],[]⟩,[]),(.exit 0,⟨[(3,.one (.i .i64))],[]⟩,[])]⟩] [] [] mo Tryz.func106 rfl rfl (by kernel_rfl) (by kernel_rfl) (by kernel_rfl) rfl
theorem k106 (a0 : Den T89) : e106.f (a0) = i_TskHeld (a0) := by kernel_rfl
noncomputable def n106 : Ent Tryz.prog ⟨[.v T89],[i6],false⟩ := ⟨106, i_TskHeld, fun a0 y hs h => e106.ok _ y hs ((k106 a0).trans h)⟩
noncomputable def e151 : Ent Tryz.prog ⟨[.v T89],[(.sl i6)],false⟩ := genE [] 151 _ [.t 2] [⟨2,[(.normal,⟨[(3,.one (.ref 0)),(9,.one (.i .i64))],[.sl i6]⟩,[]),(.exit 0,⟨[(3,.one (.ref 0))],[.sl i6]⟩,[])]⟩] [i6] [] mo Tryz.func151 rfl rfl (by kernel_rfl) (by kernel_rfl) (by kernel_rfl) rfl
theorem k151 (a0 : Den T89) : e151.f (a0) = i_TskTask_marks (a0) := by kernel_rfl
noncomputable def n151 : Ent Tryz.prog ⟨[.v T89],[(.sl i6)],false⟩ := ⟨151, i_TskTask_marks, fun a0 y hs h => e151.ok _ y hs ((k151 a0).trans h)⟩
noncomputable def e107 : Ent Tryz.prog ⟨[.v T89],[i6],false⟩ := genE [⟨_,n151,none⟩,⟨_,n135,none⟩] 107 _ [.t 2] [] [i6] [] mo Tryz.func107 rfl rfl (by kernel_rfl) (by kernel_rfl) (by kernel_rfl) rfl
theorem k107 (a0 : Den T89) : e107.f (a0) = i_TskLow (a0) := by kernel_rfl
noncomputable def n107 : Ent Tryz.prog ⟨[.v T89],[i6],false⟩ := ⟨107, i_TskLow, fun a0 y hs h => e107.ok _ y hs ((k107 a0).trans h)⟩
noncomputable def e21 : Ent Tryz.prog ⟨[.v T60],[.bool],false⟩ := genE [⟨_,n67,none⟩,⟨_,n56,none⟩,⟨_,n51,none⟩,⟨_,n68,none⟩] 21 _ [.t 2] [⟨14,[(.normal,⟨[(1,.one (.vp 0 0)),(24,.one .b)],[.pk false T60]⟩,[])]⟩] [] [] mo Tryz.func21 rfl rfl (by kernel_rfl) (by kernel_rfl) (by kernel_rfl) rfl
theorem k21 (a0 : Den T60) : e21.f (a0) = i_PanOk (a0) := by kernel_rfl
noncomputable def n21 : Ent Tryz.prog ⟨[.v T60],[.bool],false⟩ := ⟨21, i_PanOk, fun a0 y hs h => e21.ok _ y hs ((k21 a0).trans h)⟩
noncomputable def e152 : Ent Tryz.prog ⟨[.v T60],[.bool],false⟩ := genE [⟨_,n21,none⟩] 152 _ [.t 2] [] [] [] mo Tryz.func152 rfl rfl (by kernel_rfl) (by kernel_rfl) (by kernel_rfl) rfl
theorem k152 (a0 : Den T60) : e152.f (a0) = i_told__1 (a0) := by kernel_rfl
noncomputable def n152 : Ent Tryz.prog ⟨[.v T60],[.bool],false⟩ := ⟨152, i_told__1, fun a0 y hs h => e152.ok _ y hs ((k152 a0).trans h)⟩
noncomputable def e187 : Ent Tryz.prog ⟨[.v T124],[.bool],false⟩ := genE [⟨_,n89,none⟩] 187 _ [.t 2] [] [] [] mo Tryz.func187 rfl rfl (by kernel_rfl) (by kernel_rfl) (by kernel_rfl) rfl
theorem k187 (a0 : Den T124) : e187.f (a0) = i_isRec (a0) := by kernel_rfl
noncomputable def n187 : Ent Tryz.prog ⟨[.v T124],[.bool],false⟩ := ⟨187, i_isRec, fun a0 y hs h => e187.ok _ y hs ((k187 a0).trans h)⟩
noncomputable def e154 : Ent Tryz.prog ⟨[.v T176],[.bool],false⟩ := genE [⟨_,n187,none⟩,⟨_,n56,none⟩,⟨_,n51,none⟩] 154 _ [.t 2] [] [] [] mo Tryz.func154 rfl rfl (by kernel_rfl) (by kernel_rfl) (by kernel_rfl) rfl
theorem k154 (a0 : Den T176) : e154.f (a0) = i_LatOk (a0) := by kernel_rfl
noncomputable def n154 : Ent Tryz.prog ⟨[.v T176],[.bool],false⟩ := ⟨154, i_LatOk, fun a0 y hs h => e154.ok _ y hs ((k154 a0).trans h)⟩
noncomputable def e153 : Ent Tryz.prog ⟨[.v T176],[.bool],false⟩ := genE [⟨_,n154,none⟩] 153 _ [.t 2] [] [] [] mo Tryz.func153 rfl rfl (by kernel_rfl) (by kernel_rfl) (by kernel_rfl) rfl
theorem k153 (a0 : Den T176) : e153.f (a0) = i_told__2 (a0) := by kernel_rfl
noncomputable def n153 : Ent Tryz.prog ⟨[.v T176],[.bool],false⟩ := ⟨153, i_told__2, fun a0 y hs h => e153.ok _ y hs ((k153 a0).trans h)⟩
noncomputable def e120 : Ent Tryz.prog ⟨[.v (.sl T60),.f T60 .bool],[i6],false⟩ := genE [] 120 _ [.t 4] [⟨2,[(.normal,⟨[(8,.one (.i .i64))],[]⟩,[]),(.ret,⟨[(4,.one (.i .i64))],[]⟩,[]),(.exit 0,⟨[],[]⟩,[])]⟩] [] [] mo Tryz.func120 rfl rfl (by kernel_rfl) (by kernel_rfl) (by kernel_rfl) rfl
theorem k120 (a0 : Den (.sl T60)) (a1 : Clo Tryz.prog T60 .bool) : e120.f (a0, a1) = g_IndexFunc_PanPane (a0, a1.p) := by kernel_rfl
noncomputable def n120 : Ent Tryz.prog ⟨[.v (.sl T60),.f T60 .bool],[i6],false⟩ := ⟨120, fun x => g_IndexFunc_PanPane (x.1, x.2.p), fun ⟨a0,a1⟩ y hs h => e120.ok _ y hs ((k120 a0 a1).trans h)⟩
noncomputable def e64 : Ent Tryz.prog ⟨[.v (.sl T60),.f T60 .bool],[.bool],false⟩ := genE [⟨_,n120,none⟩] 64 _ [.t 4] [] [] [] mo Tryz.func64 rfl rfl (by kernel_rfl) (by kernel_rfl) (by kernel_rfl) rfl
theorem k64 (a0 : Den (.sl T60)) (a1 : Clo Tryz.prog T60 .bool) : e64.f (a0, a1) = g_ContainsFunc_PanPane (a0, a1.p) := by kernel_rfl
noncomputable def n64 : Ent Tryz.prog ⟨[.v (.sl T60),.f T60 .bool],[.bool],false⟩ := ⟨64, fun x => g_ContainsFunc_PanPane (x.1, x.2.p), fun ⟨a0,a1⟩ y hs h => e64.ok _ y hs ((k64 a0 a1).trans h)⟩
noncomputable def e188 : Ent Tryz.prog ⟨[.v (.sl T176),.f T176 .bool],[i6],false⟩ := genE [] 188 _ [.t 4] [⟨2,[(.normal,⟨[(8,.one (.i .i64))],[]⟩,[]),(.ret,⟨[(4,.one (.i .i64))],[]⟩,[]),(.exit 0,⟨[],[]⟩,[])]⟩] [] [] mo Tryz.func188 rfl rfl (by kernel_rfl) (by kernel_rfl) (by kernel_rfl) rfl
theorem k188 (a0 : Den (.sl T176)) (a1 : Clo Tryz.prog T176 .bool) : e188.f (a0, a1) = g_IndexFunc_LatPair (a0, a1.p) := by kernel_rfl
noncomputable def n188 : Ent Tryz.prog ⟨[.v (.sl T176),.f T176 .bool],[i6],false⟩ := ⟨188, fun x => g_IndexFunc_LatPair (x.1, x.2.p), fun ⟨a0,a1⟩ y hs h => e188.ok _ y hs ((k188 a0 a1).trans h)⟩
noncomputable def e155 : Ent Tryz.prog ⟨[.v (.sl T176),.f T176 .bool],[.bool],false⟩ := genE [⟨_,n188,none⟩] 155 _ [.t 4] [] [] [] mo Tryz.func155 rfl rfl (by kernel_rfl) (by kernel_rfl) (by kernel_rfl) rfl
theorem k155 (a0 : Den (.sl T176)) (a1 : Clo Tryz.prog T176 .bool) : e155.f (a0, a1) = g_ContainsFunc_LatPair (a0, a1.p) := by kernel_rfl
noncomputable def n155 : Ent Tryz.prog ⟨[.v (.sl T176),.f T176 .bool],[.bool],false⟩ := ⟨155, fun x => g_ContainsFunc_LatPair (x.1, x.2.p), fun ⟨a0,a1⟩ y hs h => e155.ok _ y hs ((k155 a0 a1).trans h)⟩
noncomputable def e110 : Ent Tryz.prog ⟨[.v (.sl T60),.v (.sl T176),.v i6],[.bool],false⟩ := genE [⟨_,n152,none⟩,⟨_,n153,none⟩,⟨_,n64,none⟩,⟨_,n155,none⟩] 110 _ [.t 6] [] [] [] mo Tryz.func110 rfl rfl (by kernel_rfl) (by kernel_rfl) (by kernel_rfl) rfl
theorem k110 (a0 : Den (.sl T60)) (a1 : Den (.sl T176)) (a2 : Den i6) : e110.f (a0, a1, a2) = i_told (a0, a1, a2) := by kernel_rfl
noncomputable def n110 : Ent Tryz.prog ⟨[.v (.sl T60),.v (.sl T176),.v i6],[.bool],false⟩ := ⟨110, i_told, fun ⟨a0,a1,a2⟩ y hs h => e110.ok _ y hs ((k110 a0 a1 a2).trans h)⟩
noncomputable def e108 : Ent Tryz.prog ⟨[.v T87],[.bool],false⟩ := genE [⟨_,n51,none⟩,⟨_,n110,none⟩] 108 _ [.t 2] [] [] [] mo Tryz.func108 rfl rfl (by kernel_rfl) (by kernel_rfl) (by kernel_rfl) rfl
theorem k108 (a0 : Den T87) : e108.f (a0) = i_TskTxn_ok (a0) := by kernel_rfl
noncomputable def n108 : Ent Tryz.prog ⟨[.v T87],[.bool],false⟩ := ⟨108, i_TskTxn_ok, fun a0 y hs h => e108.ok _ y hs ((k108 a0).trans h)⟩
noncomputable def e52 : Ent Tryz.prog ⟨[.v T24,.v T89],[.bool],false⟩ := genE [⟨_,n92,none⟩,⟨_,n104,none⟩,⟨_,n103,none⟩,⟨_,n106,none⟩,⟨_,n51,none⟩,⟨_,n107,none⟩,⟨_,n108,none⟩] 52 _ [.t 4] [⟨3,[(.normal,⟨[(3,.one (.vp 0 0)),(23,.one .b)],[.pk false T89v]⟩,[])]⟩] [] [(3, [2])] mo Tryz.func52 rfl rfl (by kernel_rfl) (by kernel_rfl) (by kernel_rfl) rfl
theorem k52 (a0 : Den T24) (a1 : Den T89) : e52.f (a0, a1) = i_TskOk (a0, a1) := by kernel_rfl
noncomputable def n52 : Ent Tryz.prog ⟨[.v T24,.v T89],[.bool],false⟩ := ⟨52, i_TskOk, fun ⟨a0,a1⟩ y hs h => e52.ok _ y hs ((k52 a0 a1).trans h)⟩
noncomputable def e109 : Ent Tryz.prog ⟨[.v (.sl T97),.f T97 .bool],[i6],false⟩ := genE [] 109 _ [.t 4] [⟨2,[(.normal,⟨[(8,.one (.i .i64))],[]⟩,[]),(.ret,⟨[(4,.one (.i .i64))],[]⟩,[]),(.exit 0,⟨[],[]⟩,[])]⟩] [] [] mo Tryz.func109 rfl rfl (by kernel_rfl) (by kernel_rfl) (by kernel_rfl) rfl
theorem k109 (a0 : Den (.sl T97)) (a1 : Clo Tryz.prog T97 .bool) : e109.f (a0, a1) = g_IndexFunc_FloSink (a0, a1.p) := by kernel_rfl
noncomputable def n109 : Ent Tryz.prog ⟨[.v (.sl T97),.f T97 .bool],[i6],false⟩ := ⟨109, fun x => g_IndexFunc_FloSink (x.1, x.2.p), fun ⟨a0,a1⟩ y hs h => e109.ok _ y hs ((k109 a0 a1).trans h)⟩
noncomputable def e53 : Ent Tryz.prog ⟨[.v (.sl T97),.f T97 .bool],[.bool],false⟩ := genE [⟨_,n109,none⟩] 53 _ [.t 4] [] [] [] mo Tryz.func53 rfl rfl (by kernel_rfl) (by kernel_rfl) (by kernel_rfl) rfl
theorem k53 (a0 : Den (.sl T97)) (a1 : Clo Tryz.prog T97 .bool) : e53.f (a0, a1) = g_ContainsFunc_FloSink (a0, a1.p) := by kernel_rfl
noncomputable def n53 : Ent Tryz.prog ⟨[.v (.sl T97),.f T97 .bool],[.bool],false⟩ := ⟨53, fun x => g_ContainsFunc_FloSink (x.1, x.2.p), fun ⟨a0,a1⟩ y hs h => e53.ok _ y hs ((k53 a0 a1).trans h)⟩
noncomputable def e55 : Ent Tryz.prog ⟨[.v T97],[.bool],false⟩ := genE [⟨_,n108,none⟩,⟨_,n51,none⟩,⟨_,n110,none⟩] 55 _ [.t 2] [⟨8,[(.normal,⟨[(1,.one (.vp 0 0)),(5,.one (.vp 1 0)),(23,.one .b)],[.pk false T97v,.pk false T87v]⟩,[])]⟩,⟨2,[(.normal,⟨[(1,.one (.vp 0 0)),(3,.one (.i .i64)),(11,.one (.i .i64))],[.pk false T97v]⟩,[]),(.ret,⟨[(2,.one .b)],[]⟩,[]),(.exit 0,⟨[(1,.one (.vp 0 0))],[.pk false T97v]⟩,[])]⟩] [] [] mo Tryz.func55 rfl rfl (by kernel_rfl) (by kernel_rfl) (by kernel_rfl) rfl
theorem k55 (a0 : Den T97) : e55.f (a0) = i_FloSink_ok (a0) := by kernel_rfl
noncomputable def n55 : Ent Tryz.prog ⟨[.v T97],[.bool],false⟩ := ⟨55, i_FloSink_ok, fun a0 y hs h => e55.ok _ y hs ((k55 a0).trans h)⟩
noncomputable def e54 : Ent Tryz.prog ⟨[.v T97],[.bool],false⟩ := genE [⟨_,n55,none⟩] 54 _ [.t 2] [] [] [] mo Tryz.func54 rfl rfl (by kernel_rfl) (by kernel_rfl) (by kernel_rfl) rfl
theorem k54 (a0 : Den T97) : e54.f (a0) = i_FloOk__1 (a0) := by kernel_rfl
noncomputable def n54 : Ent Tryz.prog ⟨[.v T97],[.bool],false⟩ := ⟨54, i_FloOk__1, fun a0 y hs h => e54.ok _ y hs ((k54 a0).trans h)⟩
noncomputable def e10 : Ent Tryz.prog ⟨[.v T39],[.bool],false⟩ := genE [⟨_,n31,none⟩,⟨_,n41,none⟩,⟨_,n51,none⟩,⟨_,n52,none⟩,⟨_,n53,none⟩,⟨_,n54,none⟩] 10 _ [.t 2] [⟨25,[(.normal,⟨[(1,.one (.vp 0 0)),(3,.one (.vp 1 0)),(46,.one .b)],[.pk false T39v,.pk false T24]⟩,[])]⟩,⟨18,[(.normal,⟨[(1,.one (.vp 0 0)),(3,.one (.vp 1 0)),(94,.one .b)],[.pk false T39v,.pk false T24]⟩,[])]⟩,⟨13,[(.normal,⟨[(1,.one (.vp 0 0)),(3,.one (.vp 1 0)),(50,.one (.i .i64))],[.pk false T39v,.pk false T24]⟩,[]),(.ret,⟨[(2,.one .b)],[]⟩,[]),(.exit 0,⟨[(1,.one (.vp 0 0)),(3,.one (.vp 1 0))],[.pk false T39v,.pk false T24]⟩,[])]⟩,⟨7,[(.normal,⟨[(1,.one (.vp 0 0)),(3,.one (.vp 1 0)),(114,.one .b)],[.pk false T39v,.pk false T24]⟩,[])]⟩,⟨2,[(.normal,⟨[(1,.one (.vp 0 0)),(3,.one (.vp 1 0)),(99,.one (.i .i64))],[.pk false T39v,.pk false T24]⟩,[]),(.ret,⟨[(2,.one .b)],[]⟩,[]),(.exit 2,⟨[(1,.one (.vp 0 0))],[.pk false T39v]⟩,[])]⟩] [] [] mo Tryz.func10 rfl rfl (by kernel_rfl) (by kernel_rfl) (by kernel_rfl) rfl
theorem k10 (a0 : Den T39) : e10.f (a0) = i_FloOk (a0) := by kernel_rfl
noncomputable def n10 : Ent Tryz.prog ⟨[.v T39],[.bool],false⟩ := ⟨10, i_FloOk, fun a0 y hs h => e10.ok _ y hs ((k10 a0).trans h)⟩
noncomputable def e11 : Ent Tryz.prog ⟨[],[.bool],false⟩ := genE [⟨_,n56,none⟩] 11 _ [.t 0] [] [] [] mo Tryz.func11 rfl rfl (by kernel_rfl) (by kernel_rfl) (by kernel_rfl) rfl
theorem k11  : e11.f () = l_frOk () := by kernel_rfl
noncomputable def n11 : Ent Tryz.prog ⟨[],[.bool],false⟩ := ⟨11, l_frOk, fun x y hs h => e11.ok x y hs ((k11).trans h)⟩
noncomputable def e12 : Ent Tryz.prog ⟨[.v T39],[i6],false⟩ := genE [⟨_,n10,none⟩] 12 _ [.t 2] [⟨2,[(.normal,⟨[(1,.one (.vp 0 0)),(3,.one (.i .i64)),(12,.one (.i .i64))],[.pk false T39v]⟩,[]),(.exit 0,⟨[(3,.one (.i .i64))],[]⟩,[])]⟩] [] [] mo Tryz.func12 rfl rfl (by kernel_rfl) (by kernel_rfl) (by kernel_rfl) rfl
theorem k12 (a0 : Den T39) : e12.f (a0) = i_FloLeft (a0) := by kernel_rfl
noncomputable def n12 : Ent Tryz.prog ⟨[.v T39],[i6],false⟩ := ⟨12, i_FloLeft, fun a0 y hs h => e12.ok _ y hs ((k12 a0).trans h)⟩
noncomputable def e13 : Ent Tryz.prog ⟨[.v T39],[(.sl T60)],false⟩ := genE [⟨_,n10,none⟩] 13 _ [.t 2] [⟨2,[(.normal,⟨[(3,.one (.ref 0)),(12,.one (.i .i64))],[.sl T60]⟩,[]),(.exit 0,⟨[(3,.one (.ref 0))],[.sl T60]⟩,[])]⟩] [] [] mo Tryz.func13 rfl rfl (by kernel_rfl) (by kernel_rfl) (by kernel_rfl) rfl
theorem k13 (a0 : Den T39) : e13.f (a0) = i_FloPanes (a0) := by kernel_rfl
noncomputable def n13 : Ent Tryz.prog ⟨[.v T39],[(.sl T60)],false⟩ := ⟨13, i_FloPanes, fun a0 y hs h => e13.ok _ y hs ((k13 a0).trans h)⟩
noncomputable def e14 : Ent Tryz.prog ⟨[.v T39],[(.sl T176)],false⟩ := genE [⟨_,n10,none⟩] 14 _ [.t 2] [⟨2,[(.normal,⟨[(3,.one (.ref 0)),(12,.one (.i .i64))],[.sl T176]⟩,[]),(.exit 0,⟨[(3,.one (.ref 0))],[.sl T176]⟩,[])]⟩] [] [] mo Tryz.func14 rfl rfl (by kernel_rfl) (by kernel_rfl) (by kernel_rfl) rfl
theorem k14 (a0 : Den T39) : e14.f (a0) = i_FloLates (a0) := by kernel_rfl
noncomputable def n14 : Ent Tryz.prog ⟨[.v T39],[(.sl T176)],false⟩ := ⟨14, i_FloLates, fun a0 y hs h => e14.ok _ y hs ((k14 a0).trans h)⟩
noncomputable def e111 : Ent Tryz.prog ⟨[.v T135],[.bool],false⟩ := genE [] 111 _ [.t 2] [] [] [] mo Tryz.func111 rfl rfl (by kernel_rfl) (by kernel_rfl) (by kernel_rfl) rfl
theorem k111 (a0 : Den T135) : e111.f (a0) = i_FloFlow_done_1 (a0) := by kernel_rfl
noncomputable def n111 : Ent Tryz.prog ⟨[.v T135],[.bool],false⟩ := ⟨111, i_FloFlow_done_1, fun a0 y hs h => e111.ok _ y hs ((k111 a0).trans h)⟩
noncomputable def e57 : Ent Tryz.prog ⟨[.v T39],[.bool],false⟩ := genE [⟨_,n111,none⟩,⟨_,n103,none⟩] 57 _ [.t 2] [⟨22,[(.normal,⟨[(1,.one (.vp 0 0)),(39,.one .b)],[.pk false T39v]⟩,[])]⟩,⟨17,[(.normal,⟨[(1,.one (.vp 0 0)),(14,.one (.i .i64))],[.pk false T39v]⟩,[]),(.ret,⟨[(2,.one .b)],[]⟩,[]),(.exit 0,⟨[(1,.one (.vp 0 0))],[.pk false T39v]⟩,[])]⟩,⟨10,[(.normal,⟨[(1,.one (.vp 0 0)),(7,.one (.vp 1 0)),(70,.one .b)],[.pk false T39v,.pk false T89v]⟩,[])]⟩,⟨4,[(.ret,⟨[(2,.one .b)],[]⟩,[]),(.normal,⟨[(1,.one (.vp 0 0))],[.pk false T39v]⟩,[])]⟩,⟨2,[(.normal,⟨[(1,.one (.vp 0 0)),(44,.one (.i .i64))],[.pk false T39v]⟩,[]),(.ret,⟨[(2,.one .b)],[]⟩,[]),(.exit 2,⟨[],[]⟩,[])]⟩] [] [] mo Tryz.func57 rfl rfl (by kernel_rfl) (by kernel_rfl) (by kernel_rfl) rfl
theorem k57 (a0 : Den T39) : e57.f (a0) = i_FloFlow_done (a0) := by kernel_rfl
noncomputable def n57 : Ent Tryz.prog ⟨[.v T39],[.bool],false⟩ := ⟨57, i_FloFlow_done, fun a0 y hs h => e57.ok _ y hs ((k57 a0).trans h)⟩
noncomputable def e15 : Ent Tryz.prog ⟨[.v T39],[.bool],false⟩ := genE [⟨_,n10,none⟩,⟨_,n57,none⟩] 15 _ [.t 2] [] [] [] mo Tryz.func15 rfl rfl (by kernel_rfl) (by kernel_rfl) (by kernel_rfl) rfl
theorem k15 (a0 : Den T39) : e15.f (a0) = i_FloDone (a0) := by kernel_rfl
noncomputable def n15 : Ent Tryz.prog ⟨[.v T39],[.bool],false⟩ := ⟨15, i_FloDone, fun a0 y hs h => e15.ok _ y hs ((k15 a0).trans h)⟩
noncomputable def e3 : Ent Tryz.prog ⟨[.v (.sl (.int .u8))],[.bool],false⟩ := genE [⟨_,n6,none⟩,⟨_,n7,none⟩,⟨_,n9,none⟩,⟨_,n8,none⟩,⟨_,n10,none⟩,⟨_,n11,none⟩,⟨_,n12,none⟩,⟨_,n13,none⟩,⟨_,n14,none⟩,⟨_,n15,none⟩,⟨_,n16,none⟩] 3 _ [.t 2] [⟨11,[(.normal,⟨[(2,.one .b)],[]⟩,[])]⟩,⟨2,[(.normal,⟨[(6,.one (.i .i64)),(7,.one (.i .i64))],[]⟩,[]),(.exit 0,⟨[(6,.one (.i .i64))],[]⟩,[])]⟩] [] [(15, [3, 4, 5])] mo Tryz.func3 rfl rfl (by kernel_rfl) (by kernel_rfl) (by kernel_rfl) rfl
theorem k3 (a0 : Den (.sl (.int .u8))) : e3.f (a0) = l_FnFloNew (a0) := by kernel_rfl
noncomputable def n3 : Ent Tryz.prog ⟨[.v (.sl (.int .u8))],[.bool],false⟩ := ⟨3, l_FnFloNew, fun a0 y hs h => e3.ok _ y hs ((k3 a0).trans h)⟩
end Go.Proofs.YtfhkpnnbklojoaaGreatA.AS
