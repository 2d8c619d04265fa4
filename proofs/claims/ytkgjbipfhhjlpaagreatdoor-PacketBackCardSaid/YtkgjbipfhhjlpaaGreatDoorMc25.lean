import Derived.Test.YtkgjbipfhhjlpaaGreatDoorMc24
set_option linter.unusedVariables false
set_option linter.unusedSimpArgs false
set_option maxRecDepth 100000
set_option maxHeartbeats 32000000
namespace Go.Proofs.YtkgjbipfhhjlpaaGreatDoor
section
open Go.RowKit
theorem Jj5 (l:List Int)(h:(l.all fun v=>decide (0≤v∧v<256))=true):U8 fun i=>l.getD i 0:=fun i=>
 Qt (fun v hv=>of_decide_eq_true (List.all_eq_true.1 h v hv)) i
theorem Jom (w:World)(h:Env w):Calls Tryz.prog 22 #[.string ⟨#[54,32,49,48,46,48,46,48,46,49,32,53,32,49,48,46,48,46,48,46,50,32,56,48]⟩] w (Jj w (.tuple #[.agg #[.bool false,.int .u8 10,.int .u8 0,.int .u8 0,.int .u8 1,.int .u8 0,.int .u8 0,.int .u8 0,.int .u8 0,.int .u8 0,.int .u8 0,.int .u8 0,.int .u8 0,.int .u8 0,.int .u8 0,.int .u8 0,.int .u8 0,.bool false,.int .u8 10,.int .u8 0,.int .u8 0,.int .u8 2,.int .u8 0,.int .u8 0,.int .u8 0,.int .u8 0,.int .u8 0,.int .u8 0,.int .u8 0,.int .u8 0,.int .u8 0,.int .u8 0,.int .u8 0,.int .u8 0,.int .u8 6,.int .u16 5,.int .u16 80],.int .i64 0])):=by
 have h1:=Z4 [54,32,49,48,46,48,46,48,46,49,32,53,32,49,48,46,48,46,48,46,50,32,56,48] w (by decide) h
 rw[show Ja3 (XC [54,32,49,48,46,48,46,48,46,49,32,53,32,49,48,46,48,46,48,46,50,32,56,48])=.tuple #[.agg #[.bool false,.int .u8 10,.int .u8 0,.int .u8 0,.int .u8 1,.int .u8 0,.int .u8 0,.int .u8 0,.int .u8 0,.int .u8 0,.int .u8 0,.int .u8 0,.int .u8 0,.int .u8 0,.int .u8 0,.int .u8 0,.int .u8 0,.bool false,.int .u8 10,.int .u8 0,.int .u8 0,.int .u8 2,.int .u8 0,.int .u8 0,.int .u8 0,.int .u8 0,.int .u8 0,.int .u8 0,.int .u8 0,.int .u8 0,.int .u8 0,.int .u8 0,.int .u8 0,.int .u8 0,.int .u8 6,.int .u16 5,.int .u16 80],.int .i64 0] by kernel_rfl] at h1
 exact h1
theorem Jon (w:World)(h:Env w):Calls Tryz.prog 22 #[.string ⟨#[49,32,49,48,46,48,46,48,46,49,32,48,32,49,48,46,48,46,48,46,50,32,50,48,52,56]⟩] w (Jj w (.tuple #[.agg #[.bool false,.int .u8 10,.int .u8 0,.int .u8 0,.int .u8 1,.int .u8 0,.int .u8 0,.int .u8 0,.int .u8 0,.int .u8 0,.int .u8 0,.int .u8 0,.int .u8 0,.int .u8 0,.int .u8 0,.int .u8 0,.int .u8 0,.bool false,.int .u8 10,.int .u8 0,.int .u8 0,.int .u8 2,.int .u8 0,.int .u8 0,.int .u8 0,.int .u8 0,.int .u8 0,.int .u8 0,.int .u8 0,.int .u8 0,.int .u8 0,.int .u8 0,.int .u8 0,.int .u8 0,.int .u8 1,.int .u16 0,.int .u16 2048],.int .i64 0])):=by
 have h1:=Z4 [49,32,49,48,46,48,46,48,46,49,32,48,32,49,48,46,48,46,48,46,50,32,50,48,52,56] w (by decide) h
 rw[show Ja3 (XC [49,32,49,48,46,48,46,48,46,49,32,48,32,49,48,46,48,46,48,46,50,32,50,48,52,56])=.tuple #[.agg #[.bool false,.int .u8 10,.int .u8 0,.int .u8 0,.int .u8 1,.int .u8 0,.int .u8 0,.int .u8 0,.int .u8 0,.int .u8 0,.int .u8 0,.int .u8 0,.int .u8 0,.int .u8 0,.int .u8 0,.int .u8 0,.int .u8 0,.bool false,.int .u8 10,.int .u8 0,.int .u8 0,.int .u8 2,.int .u8 0,.int .u8 0,.int .u8 0,.int .u8 0,.int .u8 0,.int .u8 0,.int .u8 0,.int .u8 0,.int .u8 0,.int .u8 0,.int .u8 0,.int .u8 0,.int .u8 1,.int .u16 0,.int .u16 2048],.int .i64 0] by kernel_rfl] at h1
 exact h1
theorem Joo (w:World)(h:Env w):Calls Tryz.prog 22 #[.string ⟨#[49,55,32,58,58,49,32,57,32,58,58,50,32,53,51]⟩] w (Jj w (.tuple #[.agg #[.bool true,.int .u8 0,.int .u8 0,.int .u8 0,.int .u8 0,.int .u8 0,.int .u8 0,.int .u8 0,.int .u8 0,.int .u8 0,.int .u8 0,.int .u8 0,.int .u8 0,.int .u8 0,.int .u8 0,.int .u8 0,.int .u8 1,.bool true,.int .u8 0,.int .u8 0,.int .u8 0,.int .u8 0,.int .u8 0,.int .u8 0,.int .u8 0,.int .u8 0,.int .u8 0,.int .u8 0,.int .u8 0,.int .u8 0,.int .u8 0,.int .u8 0,.int .u8 0,.int .u8 2,.int .u8 17,.int .u16 9,.int .u16 53],.int .i64 0])):=by
 have h1:=Z4 [49,55,32,58,58,49,32,57,32,58,58,50,32,53,51] w (by decide) h
 rw[show Ja3 (XC [49,55,32,58,58,49,32,57,32,58,58,50,32,53,51])=.tuple #[.agg #[.bool true,.int .u8 0,.int .u8 0,.int .u8 0,.int .u8 0,.int .u8 0,.int .u8 0,.int .u8 0,.int .u8 0,.int .u8 0,.int .u8 0,.int .u8 0,.int .u8 0,.int .u8 0,.int .u8 0,.int .u8 0,.int .u8 1,.bool true,.int .u8 0,.int .u8 0,.int .u8 0,.int .u8 0,.int .u8 0,.int .u8 0,.int .u8 0,.int .u8 0,.int .u8 0,.int .u8 0,.int .u8 0,.int .u8 0,.int .u8 0,.int .u8 0,.int .u8 0,.int .u8 2,.int .u8 17,.int .u16 9,.int .u16 53],.int .i64 0] by kernel_rfl] at h1
 exact h1
theorem Jop (w:World)(h:Env w):Calls Tryz.prog 22 #[.string ⟨#[54,32,49,48,46,48,46,48,46,49,32,48,53,32,49,48,46,48,46,48,46,50,32,56,48]⟩] w (Jj w (.tuple #[.agg #[.bool false,.int .u8 0,.int .u8 0,.int .u8 0,.int .u8 0,.int .u8 0,.int .u8 0,.int .u8 0,.int .u8 0,.int .u8 0,.int .u8 0,.int .u8 0,.int .u8 0,.int .u8 0,.int .u8 0,.int .u8 0,.int .u8 0,.bool false,.int .u8 0,.int .u8 0,.int .u8 0,.int .u8 0,.int .u8 0,.int .u8 0,.int .u8 0,.int .u8 0,.int .u8 0,.int .u8 0,.int .u8 0,.int .u8 0,.int .u8 0,.int .u8 0,.int .u8 0,.int .u8 0,.int .u8 0,.int .u16 0,.int .u16 0],.int .i64 40])):=by
 have h1:=Z4 [54,32,49,48,46,48,46,48,46,49,32,48,53,32,49,48,46,48,46,48,46,50,32,56,48] w (by decide) h
 rw[show Ja3 (XC [54,32,49,48,46,48,46,48,46,49,32,48,53,32,49,48,46,48,46,48,46,50,32,56,48])=.tuple #[.agg #[.bool false,.int .u8 0,.int .u8 0,.int .u8 0,.int .u8 0,.int .u8 0,.int .u8 0,.int .u8 0,.int .u8 0,.int .u8 0,.int .u8 0,.int .u8 0,.int .u8 0,.int .u8 0,.int .u8 0,.int .u8 0,.int .u8 0,.bool false,.int .u8 0,.int .u8 0,.int .u8 0,.int .u8 0,.int .u8 0,.int .u8 0,.int .u8 0,.int .u8 0,.int .u8 0,.int .u8 0,.int .u8 0,.int .u8 0,.int .u8 0,.int .u8 0,.int .u8 0,.int .u8 0,.int .u8 0,.int .u16 0,.int .u16 0],.int .i64 40] by kernel_rfl] at h1
 exact h1
theorem Joq (w:World)(h:Env w):Calls Tryz.prog 22 #[.string ⟨#[49,32,58,58,49,32,49,32,58,58,49,32,48]⟩] w (Jj w (.tuple #[.agg #[.bool false,.int .u8 0,.int .u8 0,.int .u8 0,.int .u8 0,.int .u8 0,.int .u8 0,.int .u8 0,.int .u8 0,.int .u8 0,.int .u8 0,.int .u8 0,.int .u8 0,.int .u8 0,.int .u8 0,.int .u8 0,.int .u8 0,.bool false,.int .u8 0,.int .u8 0,.int .u8 0,.int .u8 0,.int .u8 0,.int .u8 0,.int .u8 0,.int .u8 0,.int .u8 0,.int .u8 0,.int .u8 0,.int .u8 0,.int .u8 0,.int .u8 0,.int .u8 0,.int .u8 0,.int .u8 0,.int .u16 0,.int .u16 0],.int .i64 40])):=by
 have h1:=Z4 [49,32,58,58,49,32,49,32,58,58,49,32,48] w (by decide) h
 rw[show Ja3 (XC [49,32,58,58,49,32,49,32,58,58,49,32,48])=.tuple #[.agg #[.bool false,.int .u8 0,.int .u8 0,.int .u8 0,.int .u8 0,.int .u8 0,.int .u8 0,.int .u8 0,.int .u8 0,.int .u8 0,.int .u8 0,.int .u8 0,.int .u8 0,.int .u8 0,.int .u8 0,.int .u8 0,.int .u8 0,.bool false,.int .u8 0,.int .u8 0,.int .u8 0,.int .u8 0,.int .u8 0,.int .u8 0,.int .u8 0,.int .u8 0,.int .u8 0,.int .u8 0,.int .u8 0,.int .u8 0,.int .u8 0,.int .u8 0,.int .u8 0,.int .u8 0,.int .u8 0,.int .u16 0,.int .u16 0],.int .i64 40] by kernel_rfl] at h1
 exact h1
def Jmr:Sp:=(⟨⟨false,(fun i=>([10,0,0,1]:List Int).getD i 0),false,(fun i=>([10,0,0,2]:List Int).getD i 0),6,5,80⟩,2,0⟩:Sp)
theorem Joe:Jey Jmr:=⟨⟨Jj5 _ (by decide),Jj5 _ (by decide),by decide,by decide,by decide⟩,by decide,by decide⟩
theorem Jor:QI Jmr=0:=by decide+kernel
theorem Jos:(spL Jmr).length=40:=by decide+kernel
theorem Jot (w:World):Calls Tryz.prog 15 #[.agg #[.bool false,.int .u8 10,.int .u8 0,.int .u8 0,.int .u8 1,.int .u8 0,.int .u8 0,.int .u8 0,.int .u8 0,.int .u8 0,.int .u8 0,.int .u8 0,.int .u8 0,.int .u8 0,.int .u8 0,.int .u8 0,.int .u8 0,.bool false,.int .u8 10,.int .u8 0,.int .u8 0,.int .u8 2,.int .u8 0,.int .u8 0,.int .u8 0,.int .u8 0,.int .u8 0,.int .u8 0,.int .u8 0,.int .u8 0,.int .u8 0,.int .u8 0,.int .u8 0,.int .u8 0,.int .u8 6,.int .u16 5,.int .u16 80,.int .u8 2,.int .i64 0]] w (Js w (spL Jmr) 0):=by
 have h:=Jcq Jmr Joe w
 rw[Jor] at h
 exact h
def JmM:Sp:=(⟨⟨false,(fun i=>([10,0,0,1]:List Int).getD i 0),false,(fun i=>([10,0,0,2]:List Int).getD i 0),1,0,2048⟩,0,8⟩:Sp)
theorem Jof:Jey JmM:=⟨⟨Jj5 _ (by decide),Jj5 _ (by decide),by decide,by decide,by decide⟩,by decide,by decide⟩
theorem Jou:QI JmM=0:=by decide+kernel
theorem Jov:(spL JmM).length=32:=by decide+kernel
theorem Jow (w:World):Calls Tryz.prog 15 #[.agg #[.bool false,.int .u8 10,.int .u8 0,.int .u8 0,.int .u8 1,.int .u8 0,.int .u8 0,.int .u8 0,.int .u8 0,.int .u8 0,.int .u8 0,.int .u8 0,.int .u8 0,.int .u8 0,.int .u8 0,.int .u8 0,.int .u8 0,.bool false,.int .u8 10,.int .u8 0,.int .u8 0,.int .u8 2,.int .u8 0,.int .u8 0,.int .u8 0,.int .u8 0,.int .u8 0,.int .u8 0,.int .u8 0,.int .u8 0,.int .u8 0,.int .u8 0,.int .u8 0,.int .u8 0,.int .u8 1,.int .u16 0,.int .u16 2048,.int .u8 0,.int .i64 8]] w (Js w (spL JmM) 0):=by
 have h:=Jcq JmM Jof w
 rw[Jou] at h
 exact h
def Jnl:Sp:=(⟨⟨true,(fun i=>([0,0,0,0,0,0,0,0,0,0,0,0,0,0,0,1]:List Int).getD i 0),true,(fun i=>([0,0,0,0,0,0,0,0,0,0,0,0,0,0,0,2]:List Int).getD i 0),17,9,53⟩,0,1⟩:Sp)
theorem Jog:Jey Jnl:=⟨⟨Jj5 _ (by decide),Jj5 _ (by decide),by decide,by decide,by decide⟩,by decide,by decide⟩
theorem Jox:QI Jnl=0:=by decide+kernel
theorem Joy:(spL Jnl).length=49:=by decide+kernel
theorem Joz (w:World):Calls Tryz.prog 15 #[.agg #[.bool true,.int .u8 0,.int .u8 0,.int .u8 0,.int .u8 0,.int .u8 0,.int .u8 0,.int .u8 0,.int .u8 0,.int .u8 0,.int .u8 0,.int .u8 0,.int .u8 0,.int .u8 0,.int .u8 0,.int .u8 0,.int .u8 1,.bool true,.int .u8 0,.int .u8 0,.int .u8 0,.int .u8 0,.int .u8 0,.int .u8 0,.int .u8 0,.int .u8 0,.int .u8 0,.int .u8 0,.int .u8 0,.int .u8 0,.int .u8 0,.int .u8 0,.int .u8 0,.int .u8 2,.int .u8 17,.int .u16 9,.int .u16 53,.int .u8 0,.int .i64 1]] w (Js w (spL Jnl) 0):=by
 have h:=Jcq Jnl Jog w
 rw[Jox] at h
 exact h
theorem Jn7:(spL JmM).getD 20 0=8:=by decide+kernel
theorem wkQ (oa:Option Addr)(cap:Nat)(w:World)(h:Jg w oa 40 cap (spL Jmr)):Calls Tryz.prog 11 #[.slice oa 40 cap] w (Jj w (.tuple #[.agg #[.bool false,.int .u8 10,.int .u8 0,.int .u8 0,.int .u8 1,.int .u8 0,.int .u8 0,.int .u8 0,.int .u8 0,.int .u8 0,.int .u8 0,.int .u8 0,.int .u8 0,.int .u8 0,.int .u8 0,.int .u8 0,.int .u8 0,.bool false,.int .u8 10,.int .u8 0,.int .u8 0,.int .u8 2,.int .u8 0,.int .u8 0,.int .u8 0,.int .u8 0,.int .u8 0,.int .u8 0,.int .u8 0,.int .u8 0,.int .u8 0,.int .u8 0,.int .u8 0,.int .u8 0,.int .u8 6,.int .u16 5,.int .u16 80,.int .i64 40,.int .u8 2,.bool false],.int .i64 0])):=by
 have h1:=Jen oa 40 cap _ w h (by decide) (by decide) (by decide+kernel)
 rw[show pkR (spL Jmr)=.tuple #[.agg #[.bool false,.int .u8 10,.int .u8 0,.int .u8 0,.int .u8 1,.int .u8 0,.int .u8 0,.int .u8 0,.int .u8 0,.int .u8 0,.int .u8 0,.int .u8 0,.int .u8 0,.int .u8 0,.int .u8 0,.int .u8 0,.int .u8 0,.bool false,.int .u8 10,.int .u8 0,.int .u8 0,.int .u8 2,.int .u8 0,.int .u8 0,.int .u8 0,.int .u8 0,.int .u8 0,.int .u8 0,.int .u8 0,.int .u8 0,.int .u8 0,.int .u8 0,.int .u8 0,.int .u8 0,.int .u8 6,.int .u16 5,.int .u16 80,.int .i64 40,.int .u8 2,.bool false],.int .i64 0] by kernel_rfl] at h1
 exact h1
def JnQ (w:World)(m:Nat)(l:List Int)(err:Int):Ending→World→Prop:=fun e w'=>∃oa cap,e=.returned (.tuple #[.slice oa m cap,.int .i64 err])∧Jg w' oa m cap l∧Below w.heap.size w w'
theorem Js.n {w:World}{m:Nat}{l:List Int}{err:Int}(hm:l.length=m)(hl:∀v∈l,0≤v∧v<256){e:Ending}{w':World}(h:Js w l err e w'):JnQ w m l err e w':=by
 subst hm
 obtain⟨oa,cap,h1,h2,h3⟩:=h
 exact⟨oa,cap,h1,h2.reads hl,h3⟩
theorem Jbq (w:World)(henv:Env w):Calls Tryz.prog 9 #[] w (Jj w (.bool true)):=by
 have HE:=JoL henv
 clear henv
 have HP0:Hid (∀w,Calls Tryz.prog 15 #[.agg #[.bool false,.int .u8 10,.int .u8 0,.int .u8 0,.int .u8 1,.int .u8 0,.int .u8 0,.int .u8 0,.int .u8 0,.int .u8 0,.int .u8 0,.int .u8 0,.int .u8 0,.int .u8 0,.int .u8 0,.int .u8 0,.int .u8 0,.bool false,.int .u8 10,.int .u8 0,.int .u8 0,.int .u8 2,.int .u8 0,.int .u8 0,.int .u8 0,.int .u8 0,.int .u8 0,.int .u8 0,.int .u8 0,.int .u8 0,.int .u8 0,.int .u8 0,.int .u8 0,.int .u8 0,.int .u8 6,.int .u16 5,.int .u16 80,.int .u8 2,.int .i64 0]] w (JnQ w 40 (spL Jmr) 0)):=JoL fun w=>(Jot w).mono fun _ _ h=>h.n Jos (Jdt Joe)
 have HP1:Hid (∀w,Calls Tryz.prog 15 #[.agg #[.bool false,.int .u8 10,.int .u8 0,.int .u8 0,.int .u8 1,.int .u8 0,.int .u8 0,.int .u8 0,.int .u8 0,.int .u8 0,.int .u8 0,.int .u8 0,.int .u8 0,.int .u8 0,.int .u8 0,.int .u8 0,.int .u8 0,.bool false,.int .u8 10,.int .u8 0,.int .u8 0,.int .u8 2,.int .u8 0,.int .u8 0,.int .u8 0,.int .u8 0,.int .u8 0,.int .u8 0,.int .u8 0,.int .u8 0,.int .u8 0,.int .u8 0,.int .u8 0,.int .u8 0,.int .u8 1,.int .u16 0,.int .u16 2048,.int .u8 0,.int .i64 8]] w (JnQ w 32 (spL JmM) 0)):=JoL fun w=>(Jow w).mono fun _ _ h=>h.n Jov (Jdt Jof)
 have HP2:Hid (∀w,Calls Tryz.prog 15 #[.agg #[.bool true,.int .u8 0,.int .u8 0,.int .u8 0,.int .u8 0,.int .u8 0,.int .u8 0,.int .u8 0,.int .u8 0,.int .u8 0,.int .u8 0,.int .u8 0,.int .u8 0,.int .u8 0,.int .u8 0,.int .u8 0,.int .u8 1,.bool true,.int .u8 0,.int .u8 0,.int .u8 0,.int .u8 0,.int .u8 0,.int .u8 0,.int .u8 0,.int .u8 0,.int .u8 0,.int .u8 0,.int .u8 0,.int .u8 0,.int .u8 0,.int .u8 0,.int .u8 0,.int .u8 2,.int .u8 17,.int .u16 9,.int .u16 53,.int .u8 0,.int .i64 1]] w (JnQ w 49 (spL Jnl) 0)):=JoL fun w=>(Joz w).mono fun _ _ h=>h.n Joy (Jdt Jog)
 have HQ:=JoL wkQ
 have H20:=JoL Jn7
 have BX0:=JoL (Bx.start w)
 generalize spL Jmr=L0 at*
 generalize spL JmM=L1 at*
 generalize spL Jnl=L2 at*
 go_enter Tryz.func9,Tryz.ntmps9
 go_wp2_with fail
 refine BX0.out.ret (Jom _ (HE.out.below BX0.out.out)) ?_
 intro u1 hb1 BU1
 have BX1:=JoL (BU1.out.box (Jpy false (10:Int) (1:Int) false (10:Int) (2:Int) (6:Int) (.int .u16 5) (.int .u16 80)) 30)
 clear hb1 BU1 BX0
 obtain⟨b1,hq1⟩:∃b,b=u1.heap.size:=⟨_,rfl⟩
 go_wp2_with fail
 rw[←hq1] at BX1⊢
 clear hq1
 generalize u1.alloc _=y1 at*
 refine JoN (HP0.out _) ?_
 rintro e u2 ⟨o0,c0,rfl,hr2,hb2⟩
 have BX2:=JoL (BX1.out.go hb2)
 have HL0_2:=JoL hr2
 clear hb2 hr2 BX1
 go_wp2_with fail
 refine BX2.out.ret (HQ.out o0 c0 _ HL0_2.out) ?_
 intro u3 hb3 BU3
 have BX3:=JoL (BU3.out.box (Jpr false (10:Int) (1:Int) false (10:Int) (2:Int) (6:Int) (.int .u16 5) (.int .u16 80) (.int .i64 40) (2:Int) false) 32)
 have HL0_3:=JoL ((HL0_2.out.below hb3).alloc (.cells (Jpr false (10:Int) (1:Int) false (10:Int) (2:Int) (6:Int) (.int .u16 5) (.int .u16 80) (.int .i64 40) (2:Int) false) 32))
 clear hb3 BU3 BX2 HL0_2
 obtain⟨b5,hq3⟩:∃b,b=u3.heap.size:=⟨_,rfl⟩
 go_wp2_with fail
 rw[←hq3] at BX3⊢
 clear hq3
 generalize u3.alloc _=y3 at*
 clear HL0_3
 refine BX3.out.ret (Jon _ (HE.out.below BX3.out.out)) ?_
 intro u4 hb4 BU4
 have BX4:=JoL (BU4.out.box (Jpz false (10:Int) (1:Int) false (10:Int) (2:Int) (1:Int) (.int .u16 2048)) 30)
 clear hb4 BU4 BX3
 obtain⟨b7,hq4⟩:∃b,b=u4.heap.size:=⟨_,rfl⟩
 go_wp2_with fail
 rw[←hq4] at BX4⊢
 clear hq4
 generalize u4.alloc _=y4 at*
 refine JoN (HP1.out _) ?_
 rintro e u5 ⟨o1,c1,rfl,hr5,hb5⟩
 have BX5:=JoL (BX4.out.go hb5)
 have HL1_5:=JoL hr5
 clear hb5 hr5 BX4
 go_wp2_with fail
 refine BX5.out.ret (Joo _ (HE.out.below BX5.out.out)) ?_
 intro u6 hb6 BU6
 have BX6:=JoL (BU6.out.box (Jpq true (1:Int) true (2:Int) (17:Int) (.int .u16 9) (.int .u16 53)) 30)
 have HL1_6:=JoL ((HL1_5.out.below hb6).alloc (.cells (Jpq true (1:Int) true (2:Int) (17:Int) (.int .u16 9) (.int .u16 53)) 30))
 clear hb6 BU6 BX5 HL1_5
 obtain⟨b11,hq6⟩:∃b,b=u6.heap.size:=⟨_,rfl⟩
 go_wp2_with fail
 rw[←hq6] at BX6⊢
 clear hq6
 generalize u6.alloc _=y6 at*
 refine JoN (HP2.out _) ?_
 rintro e u7 ⟨o2,c2,rfl,hr7,hb7⟩
 have BX7:=JoL (BX6.out.go hb7)
 have HL1_7:=JoL (HL1_6.out.below hb7)
 clear hb7 hr7 BX6 HL1_6
 go_wp2_with fail
 refine BX7.out.ret (Jop _ (HE.out.below BX7.out.out)) ?_
 intro u8 hb8 BU8
 have BX8:=JoL (BU8.out.box (Jpi false false) 30)
 have HL1_8:=JoL ((HL1_7.out.below hb8).alloc (.cells (Jpi false false) 30))
 clear hb8 BU8 BX7 HL1_7
 obtain⟨b15,hq8⟩:∃b,b=u8.heap.size:=⟨_,rfl⟩
 go_wp2_with fail
 rw[←hq8] at BX8⊢
 clear hq8
 generalize u8.alloc _=y8 at*
 refine BX8.out.ret (Joq _ (HE.out.below BX8.out.out)) ?_
 intro u9 hb9 BU9
 have BX9:=JoL (BU9.out.box (Jpi false false) 30)
 have HL1:=JoL ((HL1_8.out.below hb9).alloc (.cells (Jpi false false) 30))
 clear hb9 BU9 BX8 HL1_8
 obtain⟨g,off,hg,hgl,hgc⟩:=HL1.out.here (by decide)
 subst hg
 have c20:=hgc 20 (by decide)
 rw[H20.out] at c20
 have p5:=BX9.out.part (n:=40) 4 rfl rfl
 have p1:=BX9.out.part (n:=37) 5 rfl rfl
 have l5:=BX9.out.lt 4 rfl
 have l1:=BX9.out.lt 5 rfl
 clear hgc
 go_wp2_with fail
 go_ret
 exact .mk rfl BX9.out.out
open Go.RowKit Bits
theorem Jbr (w:World)(v:Int)(hv:0≤v∧v<256)(t:TypeId):Jg (w.alloc (.cells #[v] t)) (some ⟨w.heap.size,0,none⟩) 1 1 [v]:=by
 refine⟨by simp,JoQ _,by decide,fun u hu=>?_,.inr ⟨w.heap.size,0,rfl,by simp,fun j hj=>?_⟩⟩
 ·simp only[List.mem_cons,List.not_mem_nil,or_false] at hu;subst hu;exact hv
 ·obtain rfl:j=0:=by omega
  rw[cell_of_row _ _ _ _ _ _ (heap_alloc_new _ _)];rfl
structure KSt (w0:World)(g:Nat)(ob:Obj)(l:List Int)(w:World):Prop where
 wr:WrK w g (fun b=>b=w0.heap.size) l
 box:w.heap[w0.heap.size]? =some ob
 bel:Below w0.heap.size w0 w
 le:w0.heap.size<g
theorem KSt.go {w0 w w':World}{g:Nat}{ob:Obj}{l:List Int}(h:KSt w0 g ob l w)(hb:Below w.heap.size w w'):KSt w0 g ob l w':=
 ⟨h.wr.below hb,(hb.block _ (JoM h.box).1).trans h.box,h.bel.trans (hb.mono h.bel.size),h.le⟩
theorem KSt.raw {w0 w:World}{g:Nat}{ob:Obj}{l:List Int}(h:KSt w0 g ob l w){A:Option Addr}{m c:Nat}{l2:List Int}(hr:Jg w A m c l2)(hm:l.length+l2.length≤1000000):
 Calls Tryz.prog 63 #[.pointer (some ⟨g,0,none⟩),.slice A m c] w (fun e w'=>e=.returned (.int .i64 0)∧KSt w0 g ob (l++l2) w'):=
 JoN (X4 g _ l A m c l2 w h.wr hr hm) fun e w' ⟨he,hw,hb,hs⟩=>⟨he,hw,(hs _ rfl).trans h.box,h.bel.trans (hb.mono (Nat.le_of_lt h.le)),h.le⟩
theorem KSt.put {w0 w:World}{g:Nat}{ob:Obj}{l:List Int}(h:KSt w0 g ob l w)(v:Int)(h0:0≤v∧v<65536)(hm:l.length≤900000):
 Calls Tryz.prog 65 #[.pointer (some ⟨g,0,none⟩),.int .u64 v,.int .i64 2] w (fun e w'=>e=.returned (.int .i64 0)∧KSt w0 g ob (l++be2 v) w'):=
 JoN (JiZ 2 (.inr rfl) g _ l v h0.1 (by unfold Jke;simp;omega) w h.wr hm) fun e w' ⟨he,hw,hb,hs⟩=>⟨he,hw,(hs _ rfl).trans h.box,h.bel.trans (hb.mono (Nat.le_of_lt h.le)),h.le⟩
theorem JiA (S:Nat→Int)(t:Bool)(T:Nat→Int)(p a b:Int)(hr:Jv ⟨false,S,t,T,p,a,b⟩=true)(hS:U8 S)(hT:U8 T)(hp:0≤p∧p<256)(ha:0≤a∧a<65536)(hb:0≤b∧b<65536)(w:World):
 Calls Tryz.prog 24 #[.agg (kyC false S t T p a b)] w (JT w ([4]++Jc false S++Jc t T++[p]++be2 a++be2 b)):=by
 have HR:=fun w=>Q6 false S t T p a b w
 rw[hr] at HR
 have HN1:Hid ((Jc false S).length≤16):=JoL (by rw[Jm];decide)
 have HN2:Hid ((Jc t T).length≤16):=JoL (by rw[Jm];cases t<;>decide)
 obtain⟨m1,hm1⟩:∃m,(Jc false S).length=m:=⟨_,rfl⟩
 obtain⟨m2,hm2⟩:∃m,(Jc t T).length=m:=⟨_,rfl⟩
 have HS:Hid (∀w,Calls Tryz.prog 64 #[adV false S] w (Jht w m1 (Jc false S))):=JoL fun w=>(bytes_any false S w).mono fun _ _ h=>h.n hm1 (JN hS false)
 have HT:Hid (∀w,Calls Tryz.prog 64 #[adV t T] w (Jht w m2 (Jc t T))):=JoL fun w=>(bytes_any t T w).mono fun _ _ h=>h.n hm2 (JN hT t)
 have HA:=JoL ha
 have HBB:=JoL hb
 have HPP:=JoL hp
 generalize Jc false S=A1 at*
 generalize Jc t T=A2 at*
 obtain⟨LL,hLL⟩:∃LL,[4]++A1++A2++[p]++be2 a++be2 b=LL:=⟨_,rfl⟩
 rw[hLL]
 have HLL:=JoL hLL
 clear hLL
 clear hr ha hb hp hm1 hm2 hS hT
 unfold kyC adV at*
 go_enter Tryz.func24,Tryz.ntmps24
 go_wp2_with fail
 refine Calls.later (HR _) ?_
 intro x
 have h1:x.world.heap[w.heap.size]? =some (.cells (kyC false S t T p a b) 30 (0,0)):=(x.below.block _ (by simp)).trans (heap_alloc_new w (.cells (kyC false S t T p a b) 30))
 have HBx:Hid (Below w.heap.size w x.world):=JoL (JoD (Below.all (JoO _ _) _))
 have hc0:x.world.cell? ⟨w.heap.size,0,none⟩=some (.bool false):=by rw[cell_of_row _ _ _ _ _ _ h1];rfl
 have hlx:w.heap.size<x.world.heap.size:=(JoM h1).1
 have H1:=JoL h1
 clear h1
 generalize x.world=y at*
 go_wp2_with fail
 obtain⟨g,hg⟩:∃g,g=y.heap.size:=⟨_,rfl⟩
 have hlg:w.heap.size<g:=by omega
 have ST0:Hid (KSt w g (.cells (kyC false S t T p a b) 30 (0,0)) [] (y.alloc (.cells #[JoU] 137))):=JoL ⟨WrK.new (by rw[hg];exact cell_of_row _ _ _ _ _ _ (heap_alloc_new _ _)) (by rw[hg];exact frozen_of_row _ _ _ _ _ (heap_alloc_new _ _)) (by rw[hg];simp) (by intro b hb;omega),(heap_alloc_old _ _ hlx).trans H1.out,Below.all HBx.out _,hlg⟩
 have hsz:(y.alloc (.cells #[JoU] 137)).heap.size=g+1:=by rw[hg];simp
 rw[←hg]
 generalize y.alloc (.cells #[JoU] 137)=y1 at*
 have hrd:=Jbr y1 4 (by decide) 5
 rw[hsz] at hrd
 have HRD:=JoL hrd
 clear hrd hsz
 refine JoN ((ST0.out.go (Below.all (JoO _ _) (.cells #[(4:Int)] 5))).raw HRD.out (by simp)) ?_
 clear HRD ST0 H1 hc0 HBx hlx hg HR
 rintro e w3 ⟨rfl,st⟩
 have ST:=JoL st
 clear st
 have p1:Jb w3 w.heap.size 0 17=(JoX false S:Array Value):=by rw[Jl _ _ _ _ _ _ _ ST.out.box];simp[kyC]
 have hl3:w.heap.size<w3.heap.size:=(JoM ST.out.box).1
 go_wp2_with fail
 refine JoN (HS.out _) ?_
 rintro e w4 ⟨oa,cap,rfl,hr4,hb4⟩
 have ST4:=JoL (ST.out.go hb4)
 have HR4:=JoL hr4
 clear hr4 hb4 ST p1 hl3
 go_wp2_with fail
 refine JoN (ST4.out.raw HR4.out (by have:=HN1.out;simp;omega)) ?_
 rintro e w5 ⟨rfl,st⟩
 have ST5:=JoL st
 clear st ST4 HR4
 have p2:Jb w5 w.heap.size 17 17=(JoX t T:Array Value):=by rw[Jl _ _ _ _ _ _ _ ST5.out.box];simp[kyC]
 have hl5:w.heap.size<w5.heap.size:=(JoM ST5.out.box).1
 go_wp2_with fail
 refine JoN (HT.out _) ?_
 rintro e w6 ⟨ob,cap6,rfl,hr6,hb6⟩
 have ST6:=JoL (ST5.out.go hb6)
 have HR6:=JoL hr6
 clear hr6 hb6 ST5 p2 hl5
 go_wp2_with fail
 refine JoN (ST6.out.raw HR6.out (by have:=HN1.out;have:=HN2.out;simp;omega)) ?_
 rintro e w7 ⟨rfl,st⟩
 have ST7:=JoL st
 clear st ST6 HR6
 have c34:w7.cell? ⟨w.heap.size,34,none⟩=some (.int .u8 p):=cell_of_row _ _ 34 _ _ (0,0) ST7.out.box
 have hl7:w.heap.size<w7.heap.size:=(JoM ST7.out.box).1
 have HRD:=JoL (Jbr w7 p HPP.out 5)
 have ST8:=JoL (ST7.out.go (Below.all (JoO _ _) (.cells #[p] 5)))
 clear ST7
 go_wp2_with fail
 refine JoN (ST8.out.raw HRD.out (by have:=HN1.out;have:=HN2.out;simp;omega)) ?_
 rintro e w9 ⟨rfl,st⟩
 have ST9:=JoL st
 clear st ST8 HRD c34 hl7
 have ha0:=HA.out.1
 have ha1:=HA.out.2
 have hwa:IntKind.u64.wrap a=a:=by rw[IntKind.wrap_u64];omega
 have c35:w9.cell? ⟨w.heap.size,35,none⟩=some (.int .u16 a):=cell_of_row _ _ 35 _ _ (0,0) ST9.out.box
 have hl9:w.heap.size<w9.heap.size:=(JoM ST9.out.box).1
 go_wp2_with fail
 refine JoN (ST9.out.put a HA.out (by have:=HN1.out;have:=HN2.out;simp;omega)) ?_
 rintro e w10 ⟨rfl,st⟩
 have ST10:=JoL st
 clear st ST9 c35 hl9 ha0 ha1 hwa
 have hb0:=HBB.out.1
 have hb1:=HBB.out.2
 have hwb:IntKind.u64.wrap b=b:=by rw[IntKind.wrap_u64];omega
 have c36:w10.cell? ⟨w.heap.size,36,none⟩=some (.int .u16 b):=cell_of_row _ _ 36 _ _ (0,0) ST10.out.box
 have hl10:w.heap.size<w10.heap.size:=(JoM ST10.out.box).1
 go_wp2_with fail
 refine JoN (ST10.out.put b HBB.out (by have:=HN1.out;have:=HN2.out;simp[be2];omega)) ?_
 rintro e w11 ⟨rfl,st⟩
 have ST11:Hid (KSt w g (.cells (kyC false S t T p a b) 30 (0,0)) LL w11):=JoL (by rw[←HLL.out];simpa using st)
 clear st ST10 c36 hl10 hb0 hb1 hwb
 go_wp2_with fail
 refine JoN (Bits.bytes_any g LL w11 ST11.out.wr.wr (by have:=HN1.out;have:=HN2.out;rw[←HLL.out];simp[be2];omega)) ?_
 rintro e w12 ⟨oc,cc,rfl,ho,hb12⟩
 have HO:=JoL ho
 have HB12:=JoL (ST11.out.bel.trans (hb12.mono ST11.out.bel.size))
 have HS11:=JoL ST11.out.bel.size
 clear ho hb12 ST11
 go_wp2_with fail
 go_ret
 exact⟨_,_,rfl,HO.out.mono HS11.out,HB12.out⟩
theorem Jj6 (S:Nat→Int)(t:Bool)(T:Nat→Int)(p a b:Int)(hr:Jv ⟨true,S,t,T,p,a,b⟩=true)(hS:U8 S)(hT:U8 T)(hp:0≤p∧p<256)(ha:0≤a∧a<65536)(hb:0≤b∧b<65536)(w:World):
 Calls Tryz.prog 24 #[.agg (kyC true S t T p a b)] w (JT w ([6]++Jc true S++Jc t T++[p]++be2 a++be2 b)):=by
 have HR:=fun w=>Q6 true S t T p a b w
 rw[hr] at HR
 have HN1:Hid ((Jc true S).length≤16):=JoL (by rw[Jm];decide)
 have HN2:Hid ((Jc t T).length≤16):=JoL (by rw[Jm];cases t<;>decide)
 obtain⟨m1,hm1⟩:∃m,(Jc true S).length=m:=⟨_,rfl⟩
 obtain⟨m2,hm2⟩:∃m,(Jc t T).length=m:=⟨_,rfl⟩
 have HS:Hid (∀w,Calls Tryz.prog 64 #[adV true S] w (Jht w m1 (Jc true S))):=JoL fun w=>(bytes_any true S w).mono fun _ _ h=>h.n hm1 (JN hS true)
 have HT:Hid (∀w,Calls Tryz.prog 64 #[adV t T] w (Jht w m2 (Jc t T))):=JoL fun w=>(bytes_any t T w).mono fun _ _ h=>h.n hm2 (JN hT t)
 have HA:=JoL ha
 have HBB:=JoL hb
 have HPP:=JoL hp
 generalize Jc true S=A1 at*
 generalize Jc t T=A2 at*
 obtain⟨LL,hLL⟩:∃LL,[6]++A1++A2++[p]++be2 a++be2 b=LL:=⟨_,rfl⟩
 rw[hLL]
 have HLL:=JoL hLL
 clear hLL
 clear hr ha hb hp hm1 hm2 hS hT
 unfold kyC adV at*
 go_enter Tryz.func24,Tryz.ntmps24
 go_wp2_with fail
 refine Calls.later (HR _) ?_
 intro x
 have h1:x.world.heap[w.heap.size]? =some (.cells (kyC true S t T p a b) 30 (0,0)):=(x.below.block _ (by simp)).trans (heap_alloc_new w (.cells (kyC true S t T p a b) 30))
 have HBx:Hid (Below w.heap.size w x.world):=JoL (JoD (Below.all (JoO _ _) _))
 have hc0:x.world.cell? ⟨w.heap.size,0,none⟩=some (.bool true):=by rw[cell_of_row _ _ _ _ _ _ h1];rfl
 have hlx:w.heap.size<x.world.heap.size:=(JoM h1).1
 have H1:=JoL h1
 clear h1
 generalize x.world=y at*
 go_wp2_with fail
 obtain⟨g,hg⟩:∃g,g=y.heap.size:=⟨_,rfl⟩
 have hlg:w.heap.size<g:=by omega
 have ST0:Hid (KSt w g (.cells (kyC true S t T p a b) 30 (0,0)) [] (y.alloc (.cells #[JoU] 137))):=JoL ⟨WrK.new (by rw[hg];exact cell_of_row _ _ _ _ _ _ (heap_alloc_new _ _)) (by rw[hg];exact frozen_of_row _ _ _ _ _ (heap_alloc_new _ _)) (by rw[hg];simp) (by intro b hb;omega),(heap_alloc_old _ _ hlx).trans H1.out,Below.all HBx.out _,hlg⟩
 have hsz:(y.alloc (.cells #[JoU] 137)).heap.size=g+1:=by rw[hg];simp
 rw[←hg]
 generalize y.alloc (.cells #[JoU] 137)=y1 at*
 have hrd:=Jbr y1 6 (by decide) 5
 rw[hsz] at hrd
 have HRD:=JoL hrd
 clear hrd hsz
 refine JoN ((ST0.out.go (Below.all (JoO _ _) (.cells #[(6:Int)] 5))).raw HRD.out (by simp)) ?_
 clear HRD ST0 H1 hc0 HBx hlx hg HR
 rintro e w3 ⟨rfl,st⟩
 have ST:=JoL st
 clear st
 have p1:Jb w3 w.heap.size 0 17=(JoX true S:Array Value):=by rw[Jl _ _ _ _ _ _ _ ST.out.box];simp[kyC]
 have hl3:w.heap.size<w3.heap.size:=(JoM ST.out.box).1
 go_wp2_with fail
 refine JoN (HS.out _) ?_
 rintro e w4 ⟨oa,cap,rfl,hr4,hb4⟩
 have ST4:=JoL (ST.out.go hb4)
 have HR4:=JoL hr4
 clear hr4 hb4 ST p1 hl3
 go_wp2_with fail
 refine JoN (ST4.out.raw HR4.out (by have:=HN1.out;simp;omega)) ?_
 rintro e w5 ⟨rfl,st⟩
 have ST5:=JoL st
 clear st ST4 HR4
 have p2:Jb w5 w.heap.size 17 17=(JoX t T:Array Value):=by rw[Jl _ _ _ _ _ _ _ ST5.out.box];simp[kyC]
 have hl5:w.heap.size<w5.heap.size:=(JoM ST5.out.box).1
 go_wp2_with fail
 refine JoN (HT.out _) ?_
 rintro e w6 ⟨ob,cap6,rfl,hr6,hb6⟩
 have ST6:=JoL (ST5.out.go hb6)
 have HR6:=JoL hr6
 clear hr6 hb6 ST5 p2 hl5
 go_wp2_with fail
 refine JoN (ST6.out.raw HR6.out (by have:=HN1.out;have:=HN2.out;simp;omega)) ?_
 rintro e w7 ⟨rfl,st⟩
 have ST7:=JoL st
 clear st ST6 HR6
 have c34:w7.cell? ⟨w.heap.size,34,none⟩=some (.int .u8 p):=cell_of_row _ _ 34 _ _ (0,0) ST7.out.box
 have hl7:w.heap.size<w7.heap.size:=(JoM ST7.out.box).1
 have HRD:=JoL (Jbr w7 p HPP.out 5)
 have ST8:=JoL (ST7.out.go (Below.all (JoO _ _) (.cells #[p] 5)))
 clear ST7
 go_wp2_with fail
 refine JoN (ST8.out.raw HRD.out (by have:=HN1.out;have:=HN2.out;simp;omega)) ?_
 rintro e w9 ⟨rfl,st⟩
 have ST9:=JoL st
 clear st ST8 HRD c34 hl7
 have ha0:=HA.out.1
 have ha1:=HA.out.2
 have hwa:IntKind.u64.wrap a=a:=by rw[IntKind.wrap_u64];omega
 have c35:w9.cell? ⟨w.heap.size,35,none⟩=some (.int .u16 a):=cell_of_row _ _ 35 _ _ (0,0) ST9.out.box
 have hl9:w.heap.size<w9.heap.size:=(JoM ST9.out.box).1
 go_wp2_with fail
 refine JoN (ST9.out.put a HA.out (by have:=HN1.out;have:=HN2.out;simp;omega)) ?_
 rintro e w10 ⟨rfl,st⟩
 have ST10:=JoL st
 clear st ST9 c35 hl9 ha0 ha1 hwa
 have hb0:=HBB.out.1
 have hb1:=HBB.out.2
 have hwb:IntKind.u64.wrap b=b:=by rw[IntKind.wrap_u64];omega
 have c36:w10.cell? ⟨w.heap.size,36,none⟩=some (.int .u16 b):=cell_of_row _ _ 36 _ _ (0,0) ST10.out.box
 have hl10:w.heap.size<w10.heap.size:=(JoM ST10.out.box).1
 go_wp2_with fail
 refine JoN (ST10.out.put b HBB.out (by have:=HN1.out;have:=HN2.out;simp[be2];omega)) ?_
 rintro e w11 ⟨rfl,st⟩
 have ST11:Hid (KSt w g (.cells (kyC true S t T p a b) 30 (0,0)) LL w11):=JoL (by rw[←HLL.out];simpa using st)
 clear st ST10 c36 hl10 hb0 hb1 hwb
 go_wp2_with fail
 refine JoN (Bits.bytes_any g LL w11 ST11.out.wr.wr (by have:=HN1.out;have:=HN2.out;rw[←HLL.out];simp[be2];omega)) ?_
 rintro e w12 ⟨oc,cc,rfl,ho,hb12⟩
 have HO:=JoL ho
 have HB12:=JoL (ST11.out.bel.trans (hb12.mono ST11.out.bel.size))
 have HS11:=JoL ST11.out.bel.size
 clear ho hb12 ST11
 go_wp2_with fail
 go_ret
 exact⟨_,_,rfl,HO.out.mono HS11.out,HB12.out⟩
theorem Jbs (k:Ky)(hk:Jex k)(w:World):Calls Tryz.prog 24 #[.agg (kyV k)] w (JT w (JK k)):=by
 obtain⟨s,S,t,T,p,a,b⟩:=k
 cases hr:Jv ⟨s,S,t,T,p,a,b⟩ with
 |false=>exact Jk6 s S t T p a b hr w
 |true=>
  have h:JK ⟨s,S,t,T,p,a,b⟩=[if s then 6 else 4]++Jc s S++Jc t T++[p]++be2 a++be2 b:=by unfold JK;rw[if_pos hr]
  rw[h]
  cases s
  ·exact JiA S t T p a b hr hk.S hk.T hk.p hk.a hk.b w
  ·exact Jj6 S t T p a b hr hk.S hk.T hk.p hk.a hk.b w
end
section
open Go.RowKit
section
variable {P:Program} {ops:Array Oper} {md:Region.Mode}
def JnL (P:Program)(ops:Array Oper)(Ψ:World→Prop)(o:Oper)(v:Value)(a:Act):Prop:=Region.wanted o (yielded ops a.tmps)=true∧∀w,Ψ w→(execOp a.eval o).run P w=.ok (.value v) w
def JnM (G:Nat→World→Prop)(n:Nat)(Ψ:World→Prop):Nat→World→Prop:=fun g=>if g=n then Ψ else G g
theorem Jj7 {G:Nat→World→Prop}{top:List Nat}{k R:Nat}{C:World→Prop}{Ψ:World→Prop}(h:Jgl (JnM G top.length Ψ) (top++[R]) (k+1) C):Jgl G top (k+1) C:=by
 intro g hg w hw
 have hl:g<top.length:=by
  rcases Nat.lt_or_ge g top.length with hl|hl
  ·exact hl
  ·rw[List.getD_eq_getElem?_getD,List.getElem?_eq_none hl] at hg;simp at hg
 have:=h g (by rw[List.getD_eq_getElem?_getD,List.getElem?_append_left hl,←List.getD_eq_getElem?_getD];exact hg) w hw
 unfold JnM at this
 rwa [if_neg (by omega)] at this
theorem Jms {G:Nat→World→Prop}{top:List Nat}{k R:Nat}{C:World→Prop}{Ψ:World→Prop}(hk:k+1≤R)(h:Jgl (JnM G top.length Ψ) (top++[R]) (k+1) C):∀w,C w→Ψ w:=by
 intro w hw
 have:=h top.length (by rw[List.getD_eq_getElem?_getD,List.getElem?_append_right (JoQ _)];simpa using hk) w hw
 unfold JnM at this
 rwa [if_pos rfl] at this
theorem Jdw {hd sq:List Nat}{f:Nat}{ob:Obj}{G G':Nat→World→Prop}{top top':List Nat}{Q:Exit→Act→World→Prop}(hK:∀k C,Jgl G' top' (k+1) C→Jgl G top (k+1) C):
 ∀(n k:Nat) (C:FC) (fl:Option Nat) (listed:Array Bool) (a:Act),wpZ P md ops hd sq f ob G' top' Q n k C fl listed a→wpZ P md ops hd sq f ob G top Q n k C fl listed a
 |0,k,C,fl,listed,a,h=>h
 |n+1,k,C,fl,listed,a,h=>by
  refine⟨h.1,fun i hi oi hoi=>?_⟩
  rcases h.2 i hi oi hoi with ⟨h1,v,h2,h3⟩|⟨h1,C',h2,h3,h4⟩|⟨h1,h2,h3,h4,h5,h6⟩
  ·exact .inl ⟨h1,v,h2,Jdw hK n _ _ _ _ _ h3⟩
  ·exact .inr (.inl ⟨h1,C',h2,fun v fl=>hK _ _ (h3 v fl),fun v hv=>Jdw hK n _ _ _ _ _ (h4 v hv)⟩)
  ·exact .inr (.inr ⟨h1,h2,h3,h4,h5,fun b=>Jdw hK n _ _ _ _ _ (h6 b)⟩)
def Jeo (P:Program)(ops:Array Oper)(R:Nat)(E:FC→Act→Prop):List (Kd×Oper)→(Nat→World→Prop)→List Nat→Nat→FC→Act→Prop
 |[],_,_,_,C,a=>E C a
 |(.w,o)::rest,G,top,k,C,a=>∃C':Value→FC,(JA P ops (C none) (fun v w=>C' v none w) o a)∧(∀v fl,Jgl G top (k+1) (C' v fl))∧∀v,(∃w,C' v none w)→Jeo P ops R E rest G top (k+1) (C' v) (a.put o.dst v)
 |(.c,o)::rest,G,top,k,C,a=>∃(v:Value) (Ψ:World→Prop),JnL P ops Ψ o v a∧(∀fl w,C fl w→Ψ w)∧Jeo P ops R E rest (JnM G top.length Ψ) (top++[R]) k C (a.put o.dst v)
 |(_,o)::rest,G,top,k,C,a=>∃v,JaT P ops o v a∧Jeo P ops R E rest G top k C (a.put o.dst v)
def Jgh (md:Region.Mode)(ops:Array Oper):List (Kd×Nat)→Array Bool→Bool
 |[],_=>true
 |(.w,i)::r,listed=>decide (Region.ready md ops listed=[i])&&Jgh md ops r (listed.setIfInBounds i true)
 |(.q,i)::r,listed=>(Region.ready md ops listed).contains i&&(Region.free md ops listed i&&Jgh md ops r (listed.setIfInBounds i true))
 |(.c,i)::r,listed=>(Region.ready md ops listed).contains i&&(Region.free md ops listed i&&Jgh md ops r (listed.setIfInBounds i true))
 |_,_=>false
def JbC:List (Kd×Nat)→List Nat
 |[]=>[]
 |(.q,i)::r=>i::JbC r
 |(.c,i)::r=>i::JbC r
 |_::r=>JbC r
theorem Jfg:∀(is:List (Kd×Nat)) (p:Kd×Nat),p∈is→(p.1=.q∨p.1=.c)→p.2∈JbC is
 |(kd,i)::r,p,h,hk=>by
  rcases List.mem_cons.1 h with rfl|h
  ·simp only at hk
   rcases hk with rfl|rfl<;>simp[JbC]
  ·have:=Jfg r p h hk
   cases kd<;>simp only[JbC]<;>first|exact this|exact List.mem_cons_of_mem _ this
theorem Jcs {hd sq:List Nat}{f:Nat}{ob:Obj}{Q:Exit→Act→World→Prop}{R:Nat}{E:FC→Act→Prop}{m:Nat}(hR:sq.length≤R)
 (hsel:∀(j:Nat) (o:Oper) cs b,ops[j]? =some o→o.op≠ .select cs b)(once:∀k k' t:Nat,sq[k]? =some t→sq[k']? =some t→k=k')(hap:∀j∈hd,j∉sq):
 ∀(l:List (Kd×Oper)) (is:List (Kd×Nat)) (G:Nat→World→Prop) (top:List Nat) (k:Nat) (C:FC) (listed:Array Bool) (a:Act),is.map (fun p=>ops[p.2]?)=l.map (fun p=>some p.2)→is.map (·.1)=l.map (·.1)→(∀p∈is,(p.1=.q∨p.1=.c)→p.2∈hd)→(∀j t,(QT is)[j]? =some t→sq[k+j]? =some t)→Qo md ops sq k listed→
 Jgh md ops is listed=true→(∀G' top' k' C' a',E C' a'→Qo md ops sq k' (XK is listed)→wpZ P md ops hd sq f ob G' top' Q m k' C' none (XK is listed) a')→
 Jeo P ops R E l G top k C a→wpZ P md ops hd sq f ob G top Q (l.length+m) k C none listed a
 |[],is,G,top,k,C,listed,a,h1,_,_,_,inv,_,hE,h=>by
  cases is with
  |cons i is=>cases h1
  |nil=>rw[List.length_nil,Nat.zero_add];exact hE G top k C a h inv
 |(kk,o)::l,is,G,top,k,C,listed,a,h1,h2,h3,h4,inv,hB,hE,h=>by
  cases is with
  |nil=>cases h1
  |cons q is=>
   obtain⟨kd,i⟩:=q
   simp only[List.map_cons,List.cons.injEq] at h1 h2
   obtain⟨rfl,h2⟩:=h2
   have ha:i∈Region.ready md ops listed:=by
    cases kd<;>simp only[Jgh,Bool.and_eq_true,decide_eq_true_eq] at hB
    ·cases hB
    ·simpa using hB.1
    ·rw[hB.1];simp
    ·simpa using hB.1
    ·cases hB
   rw[show((kd,o)::l).length+m=(l.length+m)+1 by simp only[List.length_cons];omega]
   cases kd with
   |h=>cases hB
   |f=>cases hB
   |q=>
    simp only[Jgh,Bool.and_eq_true] at hB
    obtain⟨v,hv,hk⟩:=h
    have hin:=h3 (.q,i) (by simp) (.inl rfl)
    refine JaS (a0:=a) h1.1 hsel once hap hin (fun _ _=>True) (fun _ _ _ fl a' e1 e2=>(hv.of_same e1 e2).yields _) (fun _ _ _ _ _ _ _ _ _ _ _=>trivial) (l.length+m) k C none listed a trivial inv (Region.free_spec h1.1 hB.2.1) ha rfl rfl ?_
    exact Jcs hR hsel once hap l is G top k C _ _ h1.2 h2 (fun p hp=>h3 p (by simp[hp])) (fun j t ht=>h4 j t ht) (inv.other ha (hap i hin)) hB.2.2 hE hk
   |c=>
    simp only[Jgh,Bool.and_eq_true] at hB
    obtain⟨v,Ψ,hv,hC,hk⟩:=h
    have hin:=h3 (.c,i) (by simp) (.inr rfl)
    refine Jdw (fun k C=>Jj7 (R:=R) (Ψ:=Ψ)) _ _ _ _ _ _ ?_
    refine JaS (a0:=a) h1.1 hsel once hap hin (fun _ C=>∀fl w,C fl w→Ψ w) (fun _ C hc fl a' e1 e2=>JaP (by rw[e2];exact hv.1) (fun w hw=>by rw[e1];exact hv.2 w (hc fl w hw))) (fun k1 C1 C2 listed' j _ _ _ _ hj hkept fl w hw=>?_) (l.length+m) k C none listed a hC inv (Region.free_spec h1.1 hB.2.1) ha rfl rfl ?_
    ·exact Jms (Nat.le_trans (List.getElem?_eq_some_iff.1 hj).1 hR) (hkept fl) w hw
    exact Jcs hR hsel once hap l is _ _ k C _ _ h1.2 h2 (fun p hp=>h3 p (by simp[hp])) (fun j t ht=>h4 j t ht) (inv.other ha (hap i hin)) hB.2.2 hE hk
   |w=>
    simp only[Jgh,Bool.and_eq_true,decide_eq_true_eq] at hB
    obtain⟨C',e1,e2,e4⟩:=h
    have hk0:sq[k]? =some i:=h4 0 i rfl
    refine⟨by rw[hB.1];simp,fun j hj oj hoj=>?_⟩
    rw[hB.1] at hj
    obtain rfl:j=i:=by simpa using hj
    obtain rfl:o=oj:=Option.some.inj (h1.1.symm.trans hoj)
    refine .inr (.inl ⟨hk0,C',e1,e2,fun v hv=>?_⟩)
    exact Jcs hR hsel once hap l is G top (k+1) (C' v) _ _ h1.2 h2 (fun p hp=>h3 p (by simp[hp])) (fun j t ht=>by have:=h4 (j+1) t (by simpa[QT] using ht);rwa [show k+(j+1)=k+1+j by omega] at this) (inv.row2 once ha hk0) hB.2 hE (e4 v hv)
def srB (l:List Oper)(hs:List Nat)(lates:List (Nat×Nat×Nat))(top:List Nat)(os:List Oper)(s:List (Kd×Nat)):Bool:=
 let late:=fun i=>((lates.lookup i).map (·.1)).getD 0
 let grp:=fun i=>((lates.lookup i).map (·.2)).getD 0
 let sq:=QT s
 let hd:=hs++JbC s
 let L:=QM hs (Array.replicate l.toArray.size false)
 Region.noSelect l.toArray&&(Jnq .any l.toArray hs sq late&&(hs.all (fun i=>decide (late i≤top.getD (grp i) 0))&&(Jat .any l.toArray hs (Array.replicate l.toArray.size false)&&(Jag l.toArray os&&
  (hd.all (fun i=>!sq.contains i)&&(s.all (fun p=>decide (p.2<l.length))&&(Jgh .any l.toArray s L&&(decide (Region.ready .any l.toArray (XK s L)=[])&&decide (hs.length+s.length=l.length)))))))))
theorem ZJ {id:Nat}{Q:Exit→Act→World→Prop}{a:Act}{w:World}{l:List Oper}(ms:List Kd)(lates:List (Nat×Nat×Nat))(G:Nat→World→Prop)(top:List Nat)(s:List (Kd×Nat))(hm:P.follows .mixedOrders=true)(hms0:Nat.ble ms.length l.length=true)
 (hB:srB l (J3 ms 0) lates top (Jx ms l) s=true)(hd:Jbt a.tmps.size (Jx ms l)=true)
 (h:∃aF:Act,(∀w1,Below w.heap.size w w1→wpQuiet P l.toArray (fun w'=>∃x:JG w1,w'=x.world) (fun a'=>a'=aF) (Jx ms l) a)∧
   (∀p∈lates,∀oi,l[p.1]? =some oi→Je6 P l.toArray (G p.2.2) oi aF)∧
   Jeo P l.toArray (QT s).length (fun C a''=>∀w',C none w'→Q .normal a'' w') (J2 l s) G top 0 (Z1 w (.cells #[] 0)) aF):(Code.region id l.toArray true).wp P Q a w:=by
 have hms:ms.length≤l.length:=Nat.le_of_ble_eq_true hms0
 obtain⟨aF,H,hlate,hrun⟩:=h
 simp only[srB,Bool.and_eq_true,decide_eq_true_eq,List.all_eq_true] at hB
 obtain⟨hsel,hrow,hgrp,hheads,hon,hap,hs1,hp1,hend,hlen⟩:=hB
 have sh:=Jdl hrow
 have hap':∀j∈J3 ms 0++JbC s,j∉QT s:=fun j hj hc=>by
  have:=hap j hj
  rw[List.contains_iff_mem.2 hc] at this;cases this
 have hmap1:(J3 ms 0).map (fun i=>l.toArray[i]?)=(Jx ms l).map some:=by
  have:=Zh (l0:=l) ms 0 (by omega)
  simpa using this
 obtain⟨m1,k1⟩:=JaV (l:=l) s (List.all_eq_true.2 fun p hp=>by simpa using hs1 p hp)
 have l1:s.length=(J2 l s).length:=by have:=congrArg List.length m1;simpa using this
 have inv0:Qo .any l.toArray (QT s) 0 (Array.replicate l.toArray.size false):=
  ⟨by simp,fun j oj _ hl=>(by rw[getD_replicate_false] at hl;cases hl),fun k' t _ hs=>by
    refine getD_in ?_ (getD_replicate_false _ _)
    obtain⟨p,hp,rfl⟩:=Jf6 _ t (List.mem_of_getElem? hs)
    simpa using hs1 p hp,fun k' t hk hs=>by omega⟩
 have HZ:=fun hinv=>Jcs (P:=P) (md:=.any) (ops:=l.toArray) (f:=l.length) (m:=0) (hd:=J3 ms 0++JbC s) (sq:=QT s) (Q:=Q) (ob:=.cells #[] 0) (R:=(QT s).length) (E:=fun C a''=>∀w',C none w'→Q .normal a'' w') (JoQ _) (Region.noSelect_spec hsel) sh.once hap' (J2 l s) s G top 0 (Z1 w (.cells #[] 0)) (QM (J3 ms 0) (Array.replicate l.toArray.size false)) aF (by simpa using m1) k1
  (fun p hp hq=>List.mem_append.2 (.inr (Jfg _ p hp hq))) (fun j t h=>by rw[Nat.zero_add];exact h) hinv hp1 (fun G2 top2 k2 C2 a2 hE2 _=>⟨hend,hE2⟩) hrun
 have HF:=Jdm (md:=.any) (hd:=J3 ms 0++JbC s) (f:=l.length) (ob:=.cells #[] 0) (w0:=w) (fl:=none) (r:=(J2 l s).length+0) (late:=fun i=>((lates.lookup i).map (·.1)).getD 0) (grp:=fun i=>((lates.lookup i).map (·.2)).getD 0) (Q:=Q) hsel sh
  (fun i hi=>List.mem_append.2 (.inl hi)) hap' hgrp
  (fun i hi oi hoi hpos=>by
    cases hlk:lates.lookup i with
    |none=>rw[hlk] at hpos;simp at hpos
    |some m=>
     have hmem:=Zp lates i m hlk
     have:=hlate (i,m) hmem oi (by simpa using hoi)
     simpa[hlk] using this)
  (J3 ms 0) (Jx ms l) _ a hmap1 (fun i hi=>hi) inv0 hd hon hheads HZ H
 refine wp_region_any hm ?_
 have:=Xx (Q':=Q) _ 0 _ none _ _ _ ⟨⟨⟨_,(JoO w.heap.size w).drew⟩,rfl⟩,fun b hb=>by cases hb⟩ HF
 rw[show(J3 ms 0).length+((J2 l s).length+0)=l.toArray.size by simp only[List.size_toArray];omega] at this
 exact this
end
end
section
def JlD (k m:Ky):Bool:=Jnz k.s k.S m.s m.S&&(Jnz k.t k.T m.t m.T&&(k.p==m.p&&(k.a==m.a&&k.b==m.b)))
structure Jav (k m:Ky):Prop where
 s:k.s=m.s
 S:∀i,i<16→k.S i=m.S i
 t:k.t=m.t
 T:∀i,i<16→k.T i=m.T i
 p:k.p=m.p
 a:k.a=m.a
 b:k.b=m.b
theorem Jjb {k m:Ky}:JlD k m=true↔Jav k m:=by
 unfold JlD
 simp only[Bool.and_eq_true,JlY,beq_iff_eq]
 constructor
 ·rintro⟨⟨h1,h2⟩,⟨h3,h4⟩,h5,h6,h7⟩
  exact⟨h1,h2,h3,h4,h5,h6,h7⟩
 ·rintro⟨h1,h2,h3,h4,h5,h6,h7⟩
  exact⟨⟨h1,h2⟩,⟨h3,h4⟩,h5,h6,h7⟩
theorem Jav.of_value {k m:Ky}(h:kyV k=kyV m):Jav k m:=by
 unfold kyV kyC at h
 simp only[Array.mk.injEq,List.cons.injEq,Value.bool.injEq,Value.int.injEq,true_and,and_true] at h
 obtain⟨h0,s0,s1,s2,s3,s4,s5,s6,s7,s8,s9,s10,s11,s12,s13,s14,s15,ht,t0,t1,t2,t3,t4,t5,t6,t7,t8,t9,t10,t11,t12,t13,t14,t15,hp,ha,hb⟩:=h
 refine⟨h0,fun i hi=>?_,ht,fun i hi=>?_,hp,ha,hb⟩
 ·have:i=0∨i=1∨i=2∨i=3∨i=4∨i=5∨i=6∨i=7∨i=8∨i=9∨i=10∨i=11∨i=12∨i=13∨i=14∨i=15:=by omega
  rcases this with rfl|rfl|rfl|rfl|rfl|rfl|rfl|rfl|rfl|rfl|rfl|rfl|rfl|rfl|rfl|rfl<;>assumption
 ·have:i=0∨i=1∨i=2∨i=3∨i=4∨i=5∨i=6∨i=7∨i=8∨i=9∨i=10∨i=11∨i=12∨i=13∨i=14∨i=15:=by omega
  rcases this with rfl|rfl|rfl|rfl|rfl|rfl|rfl|rfl|rfl|rfl|rfl|rfl|rfl|rfl|rfl|rfl<;>assumption
theorem Jav.right {k m:Ky}(h:Jav k m):Jv k=Jv m:=by
 obtain⟨s,S,t,T,p,a,b⟩:=k
 obtain⟨s',S',t',T',p',a',b'⟩:=m
 obtain⟨rfl,hS,rfl,hT,rfl,rfl,rfl⟩:=h
 unfold Jv
 simp only at hS hT⊢
 rw[X6 hS,X6 hT]
theorem Jct {s:Bool}{B A:Nat→Int}(h:∀i,i<16→B i=A i):Jc s B=Jc s A:=by
 unfold Jc
 exact List.map_congr_left fun i hi=>h i (by have:=List.mem_range.1 hi;cases s<;>simp[JbU] at this<;>omega)
theorem Jav.bytes {k m:Ky}(h:Jav k m):JK k=JK m:=by
 unfold JK
 rw[h.right,h.s,h.t,h.p,h.a,h.b,Jct h.S,Jct h.T]
theorem Jav.text {k m:Ky}(h:Jav k m):Qw k=Qw m:=by
 unfold Qw
 rw[h.right,h.s,h.t,h.p,h.a,h.b,ZB h.S,ZB h.T]
theorem Jlr {a b:Int}(ha:0≤a∧a<65536)(hb:0≤b∧b<65536)(h:be2 a=be2 b):a=b:=by
 unfold be2 at h
 simp only[List.cons.injEq,and_true] at h
 omega
theorem Jhz {k m:Ky}(hk:Jex k)(hm:Jex m)(h1:Jv k=true)(h2:Jv m=true)(h:JK k=JK m):Jav k m:=by
 unfold JK at h
 rw[if_pos h1,if_pos h2] at h
 unfold Jv at h1 h2
 simp only[Bool.and_eq_true,beq_iff_eq] at h1 h2
 obtain⟨h,hb⟩:=List.append_inj' h rfl
 obtain⟨h,ha⟩:=List.append_inj' h rfl
 obtain⟨h,hp⟩:=List.append_inj' h rfl
 have hs:k.s=m.s:=by
  rw[List.append_assoc,List.append_assoc,List.singleton_append,List.singleton_append] at h
  have:=(List.cons.inj h).1
  cases hk':k.s<;>cases hm':m.s<;>first|rfl|(rw[hk',hm'] at this;revert this;decide)
 have ht:k.t=m.t:=h1.2.2.1.symm.trans (hs.trans h2.2.2.1)
 obtain⟨h,hT⟩:=List.append_inj' h (by rw[Jm,Jm,ht])
 have hS:=(List.append_inj' h (by rw[Jm,Jm,hs])).2
 refine⟨hs,fun i hi=>?_,ht,fun i hi=>?_,(List.cons.inj hp).1,Jlr hk.a hm.a ha,Jlr hk.b hm.b hb⟩
 ·rw[←Z5 h1.1 i hi,←Z5 h2.1 i hi,hS]
 ·rw[←Z5 h1.2.1 i hi,←Z5 h2.2.1 i hi,hT]
theorem Jfh {k m:Ky}(hk:Jex k)(hm:Jex m)(h1:Jv k=true)(h2:Jv m=true):eqL (JK k) (JK m)=JlD k m:=by
 rw[Bool.eq_iff_iff,JaE,Jjb]
 exact⟨Jhz hk hm h1 h2,Jav.bytes⟩
theorem Jls {k m:Ky}(hk:Jex k)(hm:Jex m)(h1:Jv k=true)(h2:Jv m=true):(Qw k==Qw m)=JlD k m:=by
 rw[Bool.eq_iff_iff,beq_iff_eq,Jjb]
 refine⟨fun h=>?_,Jav.text⟩
 obtain⟨k',e1,v1⟩:=JbO hk h1
 obtain⟨m',e2,v2⟩:=JbO hm h2
 rw[h,e2] at e1
 obtain rfl:=Option.some.inj e1
 exact .of_value (v1.symm.trans v2)
theorem Z6:∀a b:List UInt8,Lib.compareBytes a b=0↔a=b
 |[],[]=>by simp[Lib.compareBytes]
 |[],_::_=>by simp[Lib.compareBytes]
 |_::_,[]=>by simp[Lib.compareBytes]
 |x::a,y::b=>by
  rw[Lib.compareBytes]
  by_cases h1:x<y
  ·rw[if_pos h1]
   refine⟨fun h=>absurd h (by decide),fun h=>?_⟩
   rw[(List.cons.inj h).1] at h1
   exact absurd h1 (UInt8.lt_irrefl _)
  ·by_cases h2:y<x
   ·rw[if_neg h1,if_pos h2]
    refine⟨fun h=>absurd h (by decide),fun h=>?_⟩
    rw[(List.cons.inj h).1] at h2
    exact absurd h2 (UInt8.lt_irrefl _)
   ·rw[if_neg h1,if_neg h2,Z6 a b]
    have:x=y:=UInt8.le_antisymm (UInt8.not_lt.1 h2) (UInt8.not_lt.1 h1)
    simp[this]
theorem XE (k:Ky)(hk:Jex k):Jp (JK k):=by
 unfold JK
 split
 ·have hA:∀s {B:Nat→Int},U8 B→Jp (Jc s B):=fun s B hB v hv=>by
   unfold Jc at hv
   obtain⟨i,-,rfl⟩:=List.mem_map.1 hv
   exact hB i
  refine Jh (Jh (Jh (Jh (Jh ?_ (hA _ hk.S)) (hA _ hk.T)) ?_) (JB _)) (JB _)
  ·intro v hv
   obtain rfl:=List.mem_singleton.1 hv
   split<;>decide
  ·intro v hv
   obtain rfl:=List.mem_singleton.1 hv
   exact hk.p
 ·intro v hv;cases hv
theorem Jep (k:Ky):(JK k).length≤38:=by
 unfold JK
 split
 ·simp only[List.length_append,List.length_singleton,Jm,be2,List.length_cons,List.length_nil]
  have:∀s,(JbU s).toNat≤16:=by decide
  have h1:=this k.s
  have h2:=this k.t
  omega
 ·simp
theorem Jeq:∀(a b:List Int),Jp a→Jp b→Lib.bytesOf a=Lib.bytesOf b→a=b
 |[],[],_,_,_=>rfl
 |[],_::_,_,_,h=>by simp[Lib.bytesOf] at h
 |_::_,[],_,_,h=>by simp[Lib.bytesOf] at h
 |x::a,y::b,ha,hb,h=>by
  simp only[Lib.bytesOf,List.map_cons,List.cons.injEq] at h
  have hx:=ha x (by simp)
  have hy:=hb y (by simp)
  have e1:=congrArg UInt8.toNat h.1
  simp only[UInt8.toNat_ofNat'] at e1
  rw[Jeq a b (fun v hv=>ha v (by simp[hv])) (fun v hv=>hb v (by simp[hv])) h.2]
  congr 1
  omega
theorem Jmt {k m:Ky}(hk:Jex k)(hm:Jex m)(h1:Jv k=true)(h2:Jv m=true):(JgZ k m==0)=JlD k m:=by
 rw[←Jfh hk hm h1 h2,Bool.eq_iff_iff,beq_iff_eq,JaE]
 unfold JgZ
 rw[Z6]
 exact⟨Jeq _ _ (XE k hk) (XE m hm),fun h=>by rw[h]⟩
open Go.RowKit
theorem Jer {P:Program}{w:World}{oa:Option Addr}{n c:Nat}{l:List Int}(h:Jg w oa n c l):(Extern.Bytes.bytesOf (.slice oa n c)).run P w=.ok ⟨(Lib.bytesOf l).toArray⟩ w:=by
 obtain rfl:=h.len
 cases oa with
 |none=>
  rcases h.at' with h0|⟨g,off,e,-⟩
  ·obtain rfl:=List.eq_nil_of_length_eq_zero h0
   rfl
  ·cases e
 |some a=>
  rcases h.at' with h0|⟨g,off,e,-,hc⟩
  ·obtain rfl:=List.eq_nil_of_length_eq_zero h0
   exact Lib.run_loadBytesX (P:=P) w [] a .empty (fun j x hj=>by cases hj)
  ·cases e
   have:=Lib.run_loadBytesX (P:=P) w l ⟨g,off,none⟩ .empty (fun j x hj=>by
    rw[Addr.add_lit]
    have hl:=(List.getElem?_eq_some_iff.1 hj).1
    rw[hc j hl,List.getD_eq_getElem?_getD,hj];rfl)
   simpa[Extern.Bytes.bytesOf] using this
theorem JeQ {P:Program}{w:World}{o1 o2:Option Addr}{n1 n2 c1 c2:Nat}{xs ys:List Int}(h1:Jg w o1 n1 c1 xs)(h2:Jg w o2 n2 c2 ys):
 (Extern.BytealgCompare.compare #[.slice o1 n1 c1,.slice o2 n2 c2]).run P w=.ok (.int .i64 (Lib.compareBytes (Lib.bytesOf xs) (Lib.bytesOf ys))) w:=by
 have l1:=Jer (P:=P) h1
 have l2:=Jer (P:=P) h2
 change Sem.run P (do pure (goInt (Extern.BytealgCompare.cmp (←Extern.Bytes.bytesOf (.slice o1 n1 c1)) (←Extern.Bytes.bytesOf (.slice o2 n2 c2))))) w=_
 simp only[Sem.run_bind,l1,l2,Sem.run_pure,Result.andThen]
 rw[Lib.cmp_eq]
 simp[goInt]
theorem JhA {o1 o2:Option Addr}{n1 n2 c1 c2:Nat}{xs ys:List Int}{w:World}(h1:Jg w o1 n1 c1 xs)(h2:Jg w o2 n2 c2 ys):
 Calls Tryz.prog 75 #[.slice o1 n1 c1,.slice o2 n2 c2] w (Jj w (.int .i64 (Lib.compareBytes (Lib.bytesOf xs) (Lib.bytesOf ys)))):=by
 have hrun:=JeQ (P:=Tryz.prog) h1 h2
 clear h1 h2
 generalize Lib.compareBytes (Lib.bytesOf xs) (Lib.bytesOf ys)=R at*
 go_enter Tryz.func75,Tryz.ntmps75
 go_wp2
 rw[run_callFunc_extern Tryz.func135 (by kernel_rfl) (by kernel_rfl) (by kernel_rfl) (e:=Extern.BytealgCompare.compare) (by kernel_rfl),hrun]
 simp only[Result.andThen]
 rw[Oper.upon_value]
 go_wp2
 go_ret
 exact⟨rfl,JoO _ _⟩
theorem Jmu (k m:Ky)(hk:Jex k)(hm:Jex m)(w:World):Calls Tryz.prog 30 #[.agg (kyV k),.agg (kyV m)] w (Jj w (.int .i64 (JgZ k m))):=by
 obtain⟨nk,hnk⟩:∃n,(JK k).length=n:=⟨_,rfl⟩
 obtain⟨nm,hnm⟩:∃n,(JK m).length=n:=⟨_,rfl⟩
 have HK:Hid (∀w,Calls Tryz.prog 24 #[.agg (kyV k)] w (Jht w nk (JK k))):=JoL fun w=>(Jbs k hk w).mono fun _ _ h=>h.n hnk (XE k hk)
 have HM:Hid (∀w,Calls Tryz.prog 24 #[.agg (kyV m)] w (Jht w nm (JK m))):=JoL fun w=>(Jbs m hm w).mono fun _ _ h=>h.n hnm (XE m hm)
 have HR:Hid (JgZ k m=Lib.compareBytes (Lib.bytesOf (JK k)) (Lib.bytesOf (JK m))):=JoL rfl
 have hbx:=((Bx.start w).box (kyV k) 30).box (kyV m) 30
 rw[show(w.alloc (.cells (kyV k) 30)).heap.size=w.heap.size+1 by simp] at hbx
 have BX:=JoL hbx
 generalize JgZ k m=R at*
 generalize JK k=X at*
 generalize JK m=Y at*
 clear hbx hnk hnm hk hm
 obtain⟨ks,hks⟩:∃c,c=kyV k:=⟨_,rfl⟩
 obtain⟨ms,hms⟩:∃c,c=kyV m:=⟨_,rfl⟩
 have z1:ks.size=37:=by rw[hks];rfl
 have z2:ms.size=37:=by rw[hms];rfl
 rw[←hks,←hms] at BX⊢
 rw[←hks] at HK
 rw[←hms] at HM
 clear hks hms
 go_enter Tryz.func30,Tryz.ntmps30
 go_wp2_with fail
 generalize (w.alloc _).alloc _=y at*
 have hl0:w.heap.size<y.heap.size:=BX.out.lt 1 rfl
 have hl1:w.heap.size+1<y.heap.size:=BX.out.lt 0 rfl
 have q1:Jb y (w.heap.size+1) 0 37=ms:=BX.out.part 0 rfl z2
 refine JZ [.h,.w,.h] [(2,1,0)] (fun _ w'=>Jb w' (w.heap.size+1) 0 37=ms) [1] [(.w,1),(.w,3),(.w,4),(.q,5)] (by kernel_rfl) (by kernel_rfl) (by kernel_rfl) (by kernel_rfl) ?_
 apply Exists.intro
 refine⟨fun wx hbx=>?_,?_,?_⟩
 ·have hbx1:w.heap.size<wx.heap.size:=JoP hl0 hbx.size
  have hbx2:w.heap.size+1<wx.heap.size:=JoP hl1 hbx.size
  have p0:Jb wx w.heap.size 0 37=ks:=(BX.out.go hbx).part 1 rfl z1
  have p1:Jb wx (w.heap.size+1) 0 37=ms:=(BX.out.go hbx).part 0 rfl z2
  clear hbx
  simp only[Jx]
  repeat go_big_quiet_step (fail)
  exact wpQuiet_nil rfl
 ·intro q hq oi hoi
  simp only[List.mem_cons,List.not_mem_nil,or_false] at hq
  rcases hq with rfl
  cases hoi;exact⟨_,rfl,rfl,fun w2 hw=>Jd8 _ w2 _ ms (by kernel_rfl) hw z2⟩
 simp only[J2,List.getElem?_cons_succ,List.getElem?_cons_zero]
 refine⟨fun v fl w2=>∃o1 c1,v=.slice o1 nk c1∧Jg w2 o1 nk c1 X∧Below y.heap.size y w2,?_,?_,(fun h=>by cases h),?_⟩
 ·rintro fl rfl
  refine⟨rfl,fun w' hw'=>.inr ⟨24,#[.agg ks],by kernel_rfl,?_⟩⟩
  obtain⟨⟨x,rfl⟩,-⟩:=hw'
  refine(HK.out x.world).mono ?_
  rintro e w2 ⟨o1,c1,rfl,h1,hb⟩
  exact⟨_,rfl,o1,c1,rfl,h1,JoE x.below hb⟩
 ·rintro v fq g-w2 ⟨o1,c1,-,-,hb⟩
  exact(JL hb _ 0 37 hl1).trans q1
 rintro v ⟨gl0,w30,o1,c1,rfl,-⟩
 refine⟨fun v fl w2=>∃o2 c2,v=.slice o2 nm c2∧Jg w2 o1 nk c1 X∧Jg w2 o2 nm c2 Y∧Below y.heap.size y w2,?_,fun _ _=>Jz rfl,(fun h=>by cases h),?_⟩
 ·rintro fl rfl
  refine⟨rfl,fun w' hw'=>.inr ⟨24,#[.agg ms],by kernel_rfl,?_⟩⟩
  obtain⟨o1',c1',he,h1,hb1⟩:=hw'
  obtain⟨rfl,rfl⟩:o1=o1'∧c1=c1':=by simpa using he
  refine(HM.out w').mono ?_
  rintro e w2 ⟨o2,c2,rfl,h2,hb⟩
  exact⟨_,rfl,o2,c2,rfl,h1.below hb,h2,JoE hb1 hb⟩
 rintro v ⟨gl1,w31,o2,c2,rfl,-⟩
 refine⟨fun v fl w2=>v=.int .i64 R∧Below y.heap.size y w2,?_,fun _ _=>Jz rfl,(fun h=>by cases h),?_⟩
 ·rintro fl rfl
  refine⟨rfl,fun w' hw'=>.inr ⟨75,#[.slice o1 nk c1,.slice o2 nm c2],by kernel_rfl,?_⟩⟩
  obtain⟨o2',c2',he,h1,h2,hb1⟩:=hw'
  obtain⟨rfl,rfl⟩:o2=o2'∧c2=c2':=by simpa using he
  refine(JhA h1 h2).mono ?_
  rintro e w2 ⟨rfl,hb⟩
  rw[←HR.out]
  exact⟨_,rfl,rfl,JoE hb1 hb⟩
 rintro v ⟨gl2,w32,rfl,-⟩
 refine⟨.int .i64 R,⟨rfl,fun _=>by kernel_rfl⟩,?_⟩
 rintro z ⟨-,hb3⟩
 have HB:=JoL (BX.out.out.trans (hb3.mono BX.out.out.size))
 clear gl0 gl1 gl2 w30 w31 w32 q1 hl0 hl1 hb3
 simp only[Act.put,List.setIfInBounds_toArray,List.set_cons_succ,List.set_cons_zero]
 go_wp2_with fail
 go_ret
 exact .mk rfl HB.out
end
end Go.Proofs.YtkgjbipfhhjlpaaGreatDoor
