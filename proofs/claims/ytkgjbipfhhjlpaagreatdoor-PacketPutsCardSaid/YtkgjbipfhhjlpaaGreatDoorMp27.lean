import Derived.Test.YtkgjbipfhhjlpaaGreatDoorMp7
import Derived.Test.YtkgjbipfhhjlpaaGreatDoorTie
import Derived.LaidMore
import Derived.Lay
import Derived.SevenTiedAt
import Derived.Stop.LaidErr
import Derived.HandedShaped
set_option linter.unusedVariables false
set_option linter.unusedSimpArgs false
set_option maxRecDepth 100000
set_option maxHeartbeats 32000000
namespace Go.Proofs.YtkgjbipfhhjlpaaGreatDoor
section
open Go.ChangeShapes Go.WideShapes Go.ChangeAt Go.RowKit
def seatLaid:List (String×DataW Unit):=[("math/bits.deBruijn32tab",Rows.laid_math_bits_deBruijn32tab),("math/bits.deBruijn64tab",Rows.laid_math_bits_deBruijn64tab),("internal/strconv.uint64pow10",Rows.laid_internal_strconv_uint64pow10),("unicode/utf8.acceptRanges",Rows.laid_unicode_utf8_acceptRanges),("strconv.ErrRange",Rows.laid_strconv_ErrRange),("strconv.ErrSyntax",Rows.laid_strconv_ErrSyntax),("unicode/utf8.first",Rows.laid_unicode_utf8_first)]
def bits64:List Int:=[0,1,56,2,57,49,28,3,61,58,42,50,38,29,17,4,62,47,59,36,45,43,51,22,53,39,33,30,24,18,12,5,63,55,48,27,60,41,37,16,46,35,44,21,52,32,23,11,54,26,40,15,34,20,31,10,25,14,19,9,13,8,7,6]
theorem bits64_is:(Rows.laid_math_bits_deBruijn64tab:DataW Unit)=Lib.tabData .u8 bits64:=by kernel_rfl
theorem pow10_is:(Rows.laid_internal_strconv_uint64pow10:DataW Unit)=Lib.tabData .u64 Lib.pow10Tab:=by kernel_rfl
theorem star_is: "*"++ "errors.errorString"= "*errors.errorString":=by decide
theorem row_err (u:TypeId)(h:Tryz.prog.typeName? 3 u=some "*errors.errorString"):u=311:=
 typeName_ptr_named (nm:= "errors.errorString") (by rw[star_is];kernel_rfl) (by kernel_rfl) (by decide) u (by rw[star_is];exact h)
theorem env_of_laid {W:World}(h:laidMetH Tryz.prog seatLaid W)(hs:W.ShapedOpen Tryz.prog):Env W:=by
 rw[MakeChecks.laidMetH_plain _ _ _ (by kernel_rfl)] at h
 have h1:=h.tail
 have h2:=h1.tail
 have h4:=h2.tail.tail
 have h5:=h4.tail
 obtain⟨a4,s4,hv4,-⟩:=laid_sentinel h4 (g:=2) (ti:=126) (tp:=311) (te:=313) (ts:=9) (by kernel_rfl) (by kernel_rfl) Tryz.underlying126 row_err Tryz.underlying311 Tryz.underlying313 rfl rfl Tryz.underlying9 (by kernel_rfl) (by kernel_rfl)
 obtain⟨a5,s5,hv5,-⟩:=laid_sentinel h5 (g:=1) (ti:=126) (tp:=311) (te:=313) (ts:=9) (by kernel_rfl) (by kernel_rfl) Tryz.underlying126 row_err Tryz.underlying311 Tryz.underlying313 rfl rfl Tryz.underlying9 (by kernel_rfl) (by kernel_rfl)
 rw[bits64_is] at h1
 rw[pow10_is] at h2
 have ht1:=Lib.tabIs_of_head (g:=7) (t:=329) (e:=5) (n:=64) (by kernel_rfl) (by kernel_rfl) Tryz.underlying329 Tryz.underlying5 (by kernel_rfl) (by kernel_rfl) h1
 have ht2:=Lib.tabIs_of_head (g:=3) (t:=315) (e:=124) (n:=20) (by kernel_rfl) (by kernel_rfl) Tryz.underlying315 Tryz.underlying124 (by kernel_rfl) (by kernel_rfl) h2
 refine⟨cell_of_shapedOpen_int (zero:=#[.int .i64 0]) (t:=3) hs (of_decide_eq_true (by kernel_rfl)) (by kernel_rfl) rfl (by kernel_rfl) (by kernel_rfl) Tryz.underlying3,⟨311,.pointer (some a5),?_⟩,⟨311,.pointer (some a4),?_⟩,ht2,?_⟩
 ·simpa using World.var?_cell (g:=1) (by kernel_rfl) hv5 0
 ·simpa using World.var?_cell (g:=2) (by kernel_rfl) hv4 0
 ·exact Lib.TabIs.cell ht1 (by kernel_rfl) 15 (by decide)
theorem handed_shaped {H:Type}{enc:TypeId×Value→H}{a:Assume}{C:Checked}{os:Os}{f:FuncId}{fn:Func}{s:ChangeSpec}{conds:List PathCond}{apart fresh handsOn again:Bool}{X:World→Array Value→Prop}
 (hX:∀(w w':World) (args:Array Value),w.heap=w'.heap→X w args→X w' args)
 (own:ownKnob C.prog.godebug=none)(started:os.Started)(noInit:C.prog.inits.idxOf? f=none)(hfn:C.prog.funcs[f]? =some fn)
 (witness:∃(w:World) (tape:Tape) (i:Input),w.os=os∧(w.forCall tape i).Shaped C.prog∧i.vars=[]∧Input.okWide C.prog (w.forCall tape i) .any w.heap.size f i∧
   ((s.pre enc C.prog fn conds apart (w.forCall tape i).memory i.args∧X (w.forCall tape i).memory i.args)∧sizedMet enc C.prog fn (OpenSpec.ofChange s) apart (w.forCall tape i).memory i.args)∧a.holds C.prog (lone (Frame.enter C.prog f i.args .normal) [] (w.forCall tape i)))
 (contract:∀(W:World) (base:Nat) (args:Array Value) (ds gs:List (DataW H)) (before:List MemPlace),
   (∀(j:Nat) t v,fn.params[j]? =some t→args[j]? =some v→Value.okWide C.prog W .any base t v)→
   DataW.Whole enc C.prog fn.params.toList s.vars apart W args.toList ds gs before→X W args→W.ShapedOpen C.prog→
   Calls C.prog f args W fun e W'=>∃v,e=.returned v∧s.post enc C.prog fn apart fresh handsOn again W args v W'):
 ReturnsInHanded a C os f .any (fun w args=>(s.pre enc C.prog fn conds apart w args∧X w args)∧sizedMet enc C.prog fn (OpenSpec.ofChange s) apart w args) (s.post enc C.prog fn apart fresh handsOn again):=by
 refine returnsInHanded_of_calls own started noInit witness ?_
 intro w tape i _ hsh _ hok hpre hholds
 obtain⟨_,_,_,fn',hfn',_,_,_,_,hval⟩:=hok
 have e:fn'=fn:=Option.some.inj (hfn'.symm.trans hfn)
 subst e
 obtain⟨⟨⟨ds,gs,before,hw,hc⟩,hx⟩,hz⟩:=hpre
 have hw':=DataW.Whole.of_heap (w':=w.forCall tape i) (by rfl) hw
 refine(contract (w.forCall tape i) w.heap.size i.args ds gs before hval hw' (hX _ _ _ (by rfl) hx) hsh).mono fun e W' ⟨v,he,hp⟩=>?_
 subst he
 exact ChangeSpec.post_blind hp
theorem own:ownKnob Tryz.prog.godebug=none:=by kernel_rfl
theorem laidOut:laidOutB Tryz.prog=true:=by kernel_rfl
theorem laid_met (os:Os)(args:Array Value):laidMetH Tryz.prog seatLaid ((World.laidAll Tryz.prog os seatLaid).forCall (fun _ _=>0) ⟨#[],args,[]⟩).memory:=by
 rw[MakeChecks.laidMetH_plain _ _ _ (by kernel_rfl)]
 exact laidMet_laidAll _ (by kernel_rfl) (by kernel_rfl)
theorem cell_bool {w:World}{r:Reach}{base:Nat}{v:Value}(h:Cell.okWide Tryz.prog w r base 4 v):∃b,v=.bool b:=by
 simp only[Cell.okWide,Tryz.underlying4] at h
 cases v<;>simp_all [Cell.ok,Tryz.underlying4]
theorem cell_u8 {w:World}{r:Reach}{base:Nat}{v:Value}(h:Cell.okWide Tryz.prog w r base 5 v):∃n,v=.int .u8 n∧0≤n∧n<256:=by
 simp only[Cell.okWide,Tryz.underlying5] at h
 cases v<;>simp_all [Cell.ok,Tryz.underlying5]
 obtain⟨h1,h2⟩:=h
 have e0:IntKind.u8.min=0:=by decide
 have e1:IntKind.u8.max=255:=by decide
 simp only[IntKind.has,e0,e1] at h2
 omega
theorem cell_u16 {w:World}{r:Reach}{base:Nat}{v:Value}(h:Cell.okWide Tryz.prog w r base 28 v):∃n,v=.int .u16 n∧0≤n∧n<65536:=by
 simp only[Cell.okWide,Tryz.underlying28] at h
 cases v<;>simp_all [Cell.ok,Tryz.underlying28]
 obtain⟨h1,h2⟩:=h
 have e0:IntKind.u16.min=0:=by decide
 have e1:IntKind.u16.max=65535:=by decide
 simp only[IntKind.has,e0,e1] at h2
 omega
theorem cell_int {w:World}{r:Reach}{base:Nat}{v:Value}(h:Cell.okWide Tryz.prog w r base 3 v):∃n,v=.int .i64 n∧-9223372036854775808≤n∧n≤9223372036854775807:=by
 simp only[Cell.okWide,Tryz.underlying3] at h
 cases v<;>simp_all [Cell.ok,Tryz.underlying3]
 obtain⟨h1,h2⟩:=h
 have e0:IntKind.i64.min=-9223372036854775808:=by decide
 have e1:IntKind.i64.max=9223372036854775807:=by decide
 simp only[IntKind.has,e0,e1] at h2
 omega
theorem at_cell {o:Option TypeId}{P:TypeId→Prop}{t:TypeId}(h:∃u,o=some u∧P u)(e:o=some t):P t:=by
 obtain⟨u,hu,hp⟩:=h
 rw[e] at hu
 cases hu
 exact hp
def AllB:List Int→Prop
 |[]=>True
 |v::l=>(0≤v∧v<256)∧AllB l
theorem u8_list:{l:List Int}→AllB l→U8 fun i=>l.getD i 0
 |[],_=>fun i=>⟨by simp,by simp⟩
 |v::l,h=>fun i=>by
  cases i with
  |zero=>exact h.1
  |succ i=>exact u8_list h.2 i
theorem len39 {α:Type}(l:List α)(h:l.length=39):∃c0 c1 c2 c3 c4 c5 c6 c7 c8 c9 c10 c11 c12 c13 c14 c15 c16 c17 c18 c19 c20 c21 c22 c23 c24 c25 c26 c27 c28 c29 c30 c31 c32 c33 c34 c35 c36 c37 c38,l=[c0,c1,c2,c3,c4,c5,c6,c7,c8,c9,c10,c11,c12,c13,c14,c15,c16,c17,c18,c19,c20,c21,c22,c23,c24,c25,c26,c27,c28,c29,c30,c31,c32,c33,c34,c35,c36,c37,c38]:=by
 match l,h with
 |c0::c1::c2::c3::c4::c5::c6::c7::c8::c9::c10::c11::c12::c13::c14::c15::c16::c17::c18::c19::c20::c21::c22::c23::c24::c25::c26::c27::c28::c29::c30::c31::c32::c33::c34::c35::c36::c37::c38::[],_=>exact⟨c0,c1,c2,c3,c4,c5,c6,c7,c8,c9,c10,c11,c12,c13,c14,c15,c16,c17,c18,c19,c20,c21,c22,c23,c24,c25,c26,c27,c28,c29,c30,c31,c32,c33,c34,c35,c36,c37,c38,rfl⟩
theorem open_spec {w:World}{r:Reach}{base:Nat}{v:Value}(h:Value.okWide Tryz.prog w r base 47 v):∃k:Sp,v=.agg (spV k)∧SpOk k:=by
 simp only[Value.okWide,Tryz.underlying47] at h
 obtain⟨cs,rfl,hs,ts,ht,-,hc⟩:=h
 have hts:Tryz.prog.cellTypes Tryz.prog.depth 47=some [4,5,5,5,5,5,5,5,5,5,5,5,5,5,5,5,5,4,5,5,5,5,5,5,5,5,5,5,5,5,5,5,5,5,5,28,28,5,3]:=by kernel_rfl
 rw[hts] at ht
 obtain rfl:=Option.some.inj ht
 have hs0:cs.size=39:=hs.trans (by kernel_rfl)
 obtain⟨l⟩:=cs
 obtain⟨c0,c1,c2,c3,c4,c5,c6,c7,c8,c9,c10,c11,c12,c13,c14,c15,c16,c17,c18,c19,c20,c21,c22,c23,c24,c25,c26,c27,c28,c29,c30,c31,c32,c33,c34,c35,c36,c37,c38,rfl⟩:=len39 l hs0
 obtain⟨n0,rfl⟩:=cell_bool (at_cell (hc 0 _ rfl) rfl)
 obtain⟨n1,rfl,h1⟩:=cell_u8 (at_cell (hc 1 _ rfl) rfl)
 obtain⟨n2,rfl,h2⟩:=cell_u8 (at_cell (hc 2 _ rfl) rfl)
 obtain⟨n3,rfl,h3⟩:=cell_u8 (at_cell (hc 3 _ rfl) rfl)
 obtain⟨n4,rfl,h4⟩:=cell_u8 (at_cell (hc 4 _ rfl) rfl)
 obtain⟨n5,rfl,h5⟩:=cell_u8 (at_cell (hc 5 _ rfl) rfl)
 obtain⟨n6,rfl,h6⟩:=cell_u8 (at_cell (hc 6 _ rfl) rfl)
 obtain⟨n7,rfl,h7⟩:=cell_u8 (at_cell (hc 7 _ rfl) rfl)
 obtain⟨n8,rfl,h8⟩:=cell_u8 (at_cell (hc 8 _ rfl) rfl)
 obtain⟨n9,rfl,h9⟩:=cell_u8 (at_cell (hc 9 _ rfl) rfl)
 obtain⟨n10,rfl,h10⟩:=cell_u8 (at_cell (hc 10 _ rfl) rfl)
 obtain⟨n11,rfl,h11⟩:=cell_u8 (at_cell (hc 11 _ rfl) rfl)
 obtain⟨n12,rfl,h12⟩:=cell_u8 (at_cell (hc 12 _ rfl) rfl)
 obtain⟨n13,rfl,h13⟩:=cell_u8 (at_cell (hc 13 _ rfl) rfl)
 obtain⟨n14,rfl,h14⟩:=cell_u8 (at_cell (hc 14 _ rfl) rfl)
 obtain⟨n15,rfl,h15⟩:=cell_u8 (at_cell (hc 15 _ rfl) rfl)
 obtain⟨n16,rfl,h16⟩:=cell_u8 (at_cell (hc 16 _ rfl) rfl)
 obtain⟨n17,rfl⟩:=cell_bool (at_cell (hc 17 _ rfl) rfl)
 obtain⟨n18,rfl,h18⟩:=cell_u8 (at_cell (hc 18 _ rfl) rfl)
 obtain⟨n19,rfl,h19⟩:=cell_u8 (at_cell (hc 19 _ rfl) rfl)
 obtain⟨n20,rfl,h20⟩:=cell_u8 (at_cell (hc 20 _ rfl) rfl)
 obtain⟨n21,rfl,h21⟩:=cell_u8 (at_cell (hc 21 _ rfl) rfl)
 obtain⟨n22,rfl,h22⟩:=cell_u8 (at_cell (hc 22 _ rfl) rfl)
 obtain⟨n23,rfl,h23⟩:=cell_u8 (at_cell (hc 23 _ rfl) rfl)
 obtain⟨n24,rfl,h24⟩:=cell_u8 (at_cell (hc 24 _ rfl) rfl)
 obtain⟨n25,rfl,h25⟩:=cell_u8 (at_cell (hc 25 _ rfl) rfl)
 obtain⟨n26,rfl,h26⟩:=cell_u8 (at_cell (hc 26 _ rfl) rfl)
 obtain⟨n27,rfl,h27⟩:=cell_u8 (at_cell (hc 27 _ rfl) rfl)
 obtain⟨n28,rfl,h28⟩:=cell_u8 (at_cell (hc 28 _ rfl) rfl)
 obtain⟨n29,rfl,h29⟩:=cell_u8 (at_cell (hc 29 _ rfl) rfl)
 obtain⟨n30,rfl,h30⟩:=cell_u8 (at_cell (hc 30 _ rfl) rfl)
 obtain⟨n31,rfl,h31⟩:=cell_u8 (at_cell (hc 31 _ rfl) rfl)
 obtain⟨n32,rfl,h32⟩:=cell_u8 (at_cell (hc 32 _ rfl) rfl)
 obtain⟨n33,rfl,h33⟩:=cell_u8 (at_cell (hc 33 _ rfl) rfl)
 obtain⟨n34,rfl,h34⟩:=cell_u8 (at_cell (hc 34 _ rfl) rfl)
 obtain⟨n35,rfl,h35⟩:=cell_u16 (at_cell (hc 35 _ rfl) rfl)
 obtain⟨n36,rfl,h36⟩:=cell_u16 (at_cell (hc 36 _ rfl) rfl)
 obtain⟨n37,rfl,h37⟩:=cell_u8 (at_cell (hc 37 _ rfl) rfl)
 obtain⟨n38,rfl,h38⟩:=cell_int (at_cell (hc 38 _ rfl) rfl)
 exact⟨⟨⟨n0,fun i=>([n1,n2,n3,n4,n5,n6,n7,n8,n9,n10,n11,n12,n13,n14,n15,n16]:List Int).getD i 0,n17,fun i=>([n18,n19,n20,n21,n22,n23,n24,n25,n26,n27,n28,n29,n30,n31,n32,n33]:List Int).getD i 0,n34,n35,n36⟩,n37,n38⟩,rfl,⟨⟨u8_list ⟨h1,h2,h3,h4,h5,h6,h7,h8,h9,h10,h11,h12,h13,h14,h15,h16,trivial⟩,u8_list ⟨h18,h19,h20,h21,h22,h23,h24,h25,h26,h27,h28,h29,h30,h31,h32,h33,trivial⟩,h34,h35,h36⟩,h37,h38⟩⟩
end
end Go.Proofs.YtkgjbipfhhjlpaaGreatDoor
