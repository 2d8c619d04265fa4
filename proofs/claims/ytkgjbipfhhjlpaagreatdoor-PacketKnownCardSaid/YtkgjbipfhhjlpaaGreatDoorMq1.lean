import Derived.Test.YtkgjbipfhhjlpaaGreatDoorRows
import Derived.WalkSpells
import Derived.WalkLawsBesides
import Derived.Handy
import Derived.BigQuiet
import Derived.Laws.EntriesVeiled
import Derived.Lib.Hide
import Derived.Lib.SmallJoins
import Derived.StillTail
import Derived.Laws.CopyOwn
set_option linter.unusedVariables false
set_option linter.unusedSimpArgs false
set_option maxRecDepth 100000
set_option maxHeartbeats 32000000
namespace Go.Proofs.YtkgjbipfhhjlpaaGreatDoor
open Go.Proofs.Tryz
instance:Coe Int Value:=⟨λx=>.int .u8 x⟩
instance:Coe Bool Value:=⟨.bool⟩
instance:Coe Unit Value:=⟨λ_=>.int .u8 0⟩
inductive Jbp (x:Value)|m
instance (x:Value):CoeOut (Jbp x) Value:=⟨λ_=>x⟩
def Jbl:Jbp (.int .u16 0):=.m
def Jbm:Jbp (.int .u32 0):=.m
def Jbn:Jbp (.string ⟨#[]⟩):=.m
def Jbo:Jbp (.slice none 0 0):=.m
inductive Jbq (x:Array Value)|m
instance (x:Array Value):CoeOut (Jbq x) (Array Value):=⟨λ_=>x⟩
def Jbr (p0:Value) (f0:Nat->Int):Jbq #[p0,.int .u8 (f0 0),.int .u8 (f0 1),.int .u8 (f0 2),.int .u8 (f0 3),.int .u8 (f0 4),.int .u8 (f0 5),.int .u8 (f0 6),.int .u8 (f0 7),.int .u8 (f0 8),.int .u8 (f0 9),.int .u8 (f0 10),.int .u8 (f0 11),.int .u8 (f0 12),.int .u8 (f0 13),.int .u8 (f0 14),.int .u8 (f0 15)]:=.m
def Jbs (p0 p1 p2 p3 p4:Value) (f0 f1:Nat->Int):Jbq #[p0,.int .u8 (f0 0),.int .u8 (f0 1),.int .u8 (f0 2),.int .u8 (f0 3),.int .u8 (f0 4),.int .u8 (f0 5),.int .u8 (f0 6),.int .u8 (f0 7),.int .u8 (f0 8),.int .u8 (f0 9),.int .u8 (f0 10),.int .u8 (f0 11),.int .u8 (f0 12),.int .u8 (f0 13),.int .u8 (f0 14),.int .u8 (f0 15),p1,.int .u8 (f1 0),.int .u8 (f1 1),.int .u8 (f1 2),.int .u8 (f1 3),.int .u8 (f1 4),.int .u8 (f1 5),.int .u8 (f1 6),.int .u8 (f1 7),.int .u8 (f1 8),.int .u8 (f1 9),.int .u8 (f1 10),.int .u8 (f1 11),.int .u8 (f1 12),.int .u8 (f1 13),.int .u8 (f1 14),.int .u8 (f1 15),p2,p3,p4]:=.m
def Jbt (p0 p1 p2 p3 p4 p5 p6 p7:Value) (f0 f1:Nat->Int):Jbq #[p0,.int .u8 (f0 0),.int .u8 (f0 1),.int .u8 (f0 2),.int .u8 (f0 3),.int .u8 (f0 4),.int .u8 (f0 5),.int .u8 (f0 6),.int .u8 (f0 7),.int .u8 (f0 8),.int .u8 (f0 9),.int .u8 (f0 10),.int .u8 (f0 11),.int .u8 (f0 12),.int .u8 (f0 13),.int .u8 (f0 14),.int .u8 (f0 15),p1,.int .u8 (f1 0),.int .u8 (f1 1),.int .u8 (f1 2),.int .u8 (f1 3),.int .u8 (f1 4),.int .u8 (f1 5),.int .u8 (f1 6),.int .u8 (f1 7),.int .u8 (f1 8),.int .u8 (f1 9),.int .u8 (f1 10),.int .u8 (f1 11),.int .u8 (f1 12),.int .u8 (f1 13),.int .u8 (f1 14),.int .u8 (f1 15),p2,p3,p4,p5,p6,p7]:=.m
def Jbu (p0:Value):Jbq #[p0,.int .u8 ((λ_=>(0:Int)) 0),.int .u8 ((λ_=>(0:Int)) 1),.int .u8 ((λ_=>(0:Int)) 2),.int .u8 ((λ_=>(0:Int)) 3),.int .u8 ((λ_=>(0:Int)) 4),.int .u8 ((λ_=>(0:Int)) 5),.int .u8 ((λ_=>(0:Int)) 6),.int .u8 ((λ_=>(0:Int)) 7),.int .u8 ((λ_=>(0:Int)) 8),.int .u8 ((λ_=>(0:Int)) 9),.int .u8 ((λ_=>(0:Int)) 10),.int .u8 ((λ_=>(0:Int)) 11),.int .u8 ((λ_=>(0:Int)) 12),.int .u8 ((λ_=>(0:Int)) 13),.int .u8 ((λ_=>(0:Int)) 14),.int .u8 ((λ_=>(0:Int)) 15)]:=.m
def Jbv (p0 p1 p2 p3 p4:Value) (f0 f1:Nat->Int):Jbq #[p0,.int .u8 (f0 0),.int .u8 (f0 1),.int .u8 (f0 2),.int .u8 (f0 3),.int .u8 (f0 4),.int .u8 (f0 5),.int .u8 (f0 6),.int .u8 (f0 7),.int .u8 (f0 8),.int .u8 (f0 9),.int .u8 (f0 10),.int .u8 (f0 11),.int .u8 (f0 12),.int .u8 (f0 13),.int .u8 (f0 14),.int .u8 (f0 15),p1,.int .u8 (f1 0),.int .u8 (f1 1),.int .u8 (f1 2),.int .u8 (f1 3),.int .u8 (f1 4),.int .u8 (f1 5),.int .u8 (f1 6),.int .u8 (f1 7),.int .u8 (f1 8),.int .u8 (f1 9),.int .u8 (f1 10),.int .u8 (f1 11),.int .u8 (f1 12),.int .u8 (f1 13),.int .u8 (f1 14),.int .u8 (f1 15),p2,.int .u16 0,.int .u16 0,p3,.int .u8 0,p4]:=.m
def Jbw (p0 p1 p2 p3 p4 p5 p6:Value) (f0 f1:Nat->Int):Jbq #[p0,.int .u8 (f0 0),.int .u8 (f0 1),.int .u8 (f0 2),.int .u8 (f0 3),.int .u8 (f0 4),.int .u8 (f0 5),.int .u8 (f0 6),.int .u8 (f0 7),.int .u8 (f0 8),.int .u8 (f0 9),.int .u8 (f0 10),.int .u8 (f0 11),.int .u8 (f0 12),.int .u8 (f0 13),.int .u8 (f0 14),.int .u8 (f0 15),p1,.int .u8 (f1 0),.int .u8 (f1 1),.int .u8 (f1 2),.int .u8 (f1 3),.int .u8 (f1 4),.int .u8 (f1 5),.int .u8 (f1 6),.int .u8 (f1 7),.int .u8 (f1 8),.int .u8 (f1 9),.int .u8 (f1 10),.int .u8 (f1 11),.int .u8 (f1 12),.int .u8 (f1 13),.int .u8 (f1 14),.int .u8 (f1 15),p2,p3,p4,p5,p6]:=.m
def Jbx (p0 p1 p2 p3:Value):Jbq #[p0,.int .u8 0,.int .u8 0,.int .u8 0,.int .u8 0,.int .u8 0,.int .u8 0,.int .u8 0,.int .u8 0,.int .u8 0,.int .u8 0,.int .u8 0,.int .u8 0,.int .u8 0,.int .u8 0,.int .u8 0,.int .u8 0,p1,.int .u8 0,.int .u8 0,.int .u8 0,.int .u8 0,.int .u8 0,.int .u8 0,.int .u8 0,.int .u8 0,.int .u8 0,.int .u8 0,.int .u8 0,.int .u8 0,.int .u8 0,.int .u8 0,.int .u8 0,.int .u8 0,.int .u8 0,.int .u16 0,.int .u16 0,p2,.int .u8 0,p3]:=.m
def Jby (p0 p1 p2 p3 p4 p5 p6 p7 p8 p9 p10 p11 p12 p13 p14 p15 p16:Value):Jbq #[p0,p1,p2,p3,p4,p5,p6,p7,p8,p9,p10,p11,p12,p13,p14,p15,p16]:=.m
def Jbz (p0 p1 p2 p3 p4 p5 p6:Value):Jbq #[p0,p1,p2,.int .u32 0,.int .u32 0,p3,.int .u16 0,.int .u16 0,.slice none 0 0,p4,p5,p6]:=.m
def JbA (p0 p1 p2 p3 p4 p5 p6 p7 p8 p9:Value) (f0 f1:Nat->Int):Jbq #[p0,.int .u8 (f0 0),.int .u8 (f0 1),.int .u8 (f0 2),.int .u8 (f0 3),.int .u8 (f0 4),.int .u8 (f0 5),.int .u8 (f0 6),.int .u8 (f0 7),.int .u8 (f0 8),.int .u8 (f0 9),.int .u8 (f0 10),.int .u8 (f0 11),.int .u8 (f0 12),.int .u8 (f0 13),.int .u8 (f0 14),.int .u8 (f0 15),p1,.int .u8 (f1 0),.int .u8 (f1 1),.int .u8 (f1 2),.int .u8 (f1 3),.int .u8 (f1 4),.int .u8 (f1 5),.int .u8 (f1 6),.int .u8 (f1 7),.int .u8 (f1 8),.int .u8 (f1 9),.int .u8 (f1 10),.int .u8 (f1 11),.int .u8 (f1 12),.int .u8 (f1 13),.int .u8 (f1 14),.int .u8 (f1 15),p2,p3,p4,p5,p6,p7,p8,p9]:=.m
def JbB (p0 p1 p2 p3 p4:Value) (f0 f1:Nat->Int):Jbq #[p0,p1,p2,p3,p4,.int .u8 (f0 0),.int .u8 (f0 1),.int .u8 (f0 2),.int .u8 (f0 3),.int .u8 (f0 4),.int .u8 (f0 5),.int .u8 (f0 6),.int .u8 (f0 7),.int .u8 (f0 8),.int .u8 (f0 9),.int .u8 (f0 10),.int .u8 (f0 11),.int .u8 (f0 12),.int .u8 (f0 13),.int .u8 (f0 14),.int .u8 (f0 15),.int .u8 (f1 0),.int .u8 (f1 1),.int .u8 (f1 2),.int .u8 (f1 3),.int .u8 (f1 4),.int .u8 (f1 5),.int .u8 (f1 6),.int .u8 (f1 7),.int .u8 (f1 8),.int .u8 (f1 9),.int .u8 (f1 10),.int .u8 (f1 11),.int .u8 (f1 12),.int .u8 (f1 13),.int .u8 (f1 14),.int .u8 (f1 15)]:=.m
def JbC (p0 p1 p2 p3 p4 p5 p6:Value):Jbq #[p0,p1,p2,p3,p4,p5,p6]:=.m
def JbD (p0 p1 p2 p3:Value):Jbq #[p0,.int .u16 0,.int .u16 0,.int .u32 0,.int .u32 0,.int .u8 0,.int .u16 0,.int .u16 0,.string ⟨#[]⟩,p1,p2,p3]:=.m
def JbE:Jbq #[.int .u8 0,.int .u16 0,.int .u16 0,.int .u32 0,.int .u32 0,.int .u8 0,.int .u16 0,.int .u16 0,.string ⟨#[]⟩,.int .u8 0,.int .u8 0,.string ⟨#[]⟩]:=.m
def JbF (p0:Value):Jbq #[p0,.int .u8 0,.int .u8 0,.int .u8 0,.int .u8 0,.int .u8 0,.int .u8 0,.int .u8 0,.int .u8 0,.int .u8 0,.int .u8 0,.int .u8 0,.int .u8 0,.int .u8 0,.int .u8 0,.int .u8 0,.int .u8 0]:=.m
def JbG (p0 p1 p2 p3 p4 p5 p6:Value):Jbq #[p0,p1,p2,.int .u32 0,.int .u32 0,p3,.int .u16 0,.int .u16 0,.string ⟨#[]⟩,p4,p5,p6]:=.m
def JbH (p0 p1 p2 p3 p4 p5 p6 p7 p8 p9 p10 p11:Value):Jbq #[p0,p1,p2,p3,p4,p5,p6,p7,p8,p9,p10,p11]:=.m
def JbI (p0 p1 p2 p3:Value):Jbq #[p0,p1,p2,.int .u32 0,.int .u32 0,.int .u8 0,.int .u16 0,.int .u16 0,.string ⟨#[]⟩,.int .u8 0,.int .u8 0,p3]:=.m
def JbJ (p0 p1:Value):Jbq #[p0,.int .u8 0,.int .u8 0,.int .u8 0,.int .u8 0,.int .u8 0,.int .u8 0,.int .u8 0,.int .u8 0,.int .u8 0,.int .u8 0,.int .u8 0,.int .u8 0,.int .u8 0,.int .u8 0,.int .u8 0,.int .u8 0,p1,.int .u8 0,.int .u8 0,.int .u8 0,.int .u8 0,.int .u8 0,.int .u8 0,.int .u8 0,.int .u8 0,.int .u8 0,.int .u8 0,.int .u8 0,.int .u8 0,.int .u8 0,.int .u8 0,.int .u8 0,.int .u8 0,.int .u8 0,.int .u16 0,.int .u16 0]:=.m
def JbK (p0 p1 p2 p3 p4:Value):Jbq #[p0,p1,p2,.int .u32 0,.int .u32 0,p3,.int .u16 0,.int .u16 0,.string ⟨#[]⟩,.int .u8 0,.int .u8 0,p4]:=.m
def JbL (p0:Value):Jbq #[p0,.int .u16 0,.int .u16 0,.int .u32 0,.int .u32 0,.int .u8 0,.int .u16 0,.int .u16 0,.string ⟨#[]⟩,.int .u8 0,.int .u8 0,.string ⟨#[]⟩]:=.m
def JbM (p0 p1 p2 p3 p4 p5 p6 p7 p8 p9:Value):Jbq #[p0,p1,p2,p3,p4,p5,p6,p7,p8,.int .u8 0,.int .u8 0,p9]:=.m
def JbN (p0 p1 p2:Value) (f0 f1:Nat->Int):Jbq #[.int .u8 0,.int .u32 0,p0,p1,p2,.int .u8 (f0 0),.int .u8 (f0 1),.int .u8 (f0 2),.int .u8 (f0 3),.int .u8 (f0 4),.int .u8 (f0 5),.int .u8 (f0 6),.int .u8 (f0 7),.int .u8 (f0 8),.int .u8 (f0 9),.int .u8 (f0 10),.int .u8 (f0 11),.int .u8 (f0 12),.int .u8 (f0 13),.int .u8 (f0 14),.int .u8 (f0 15),.int .u8 (f1 0),.int .u8 (f1 1),.int .u8 (f1 2),.int .u8 (f1 3),.int .u8 (f1 4),.int .u8 (f1 5),.int .u8 (f1 6),.int .u8 (f1 7),.int .u8 (f1 8),.int .u8 (f1 9),.int .u8 (f1 10),.int .u8 (f1 11),.int .u8 (f1 12),.int .u8 (f1 13),.int .u8 (f1 14),.int .u8 (f1 15)]:=.m
def JbO (p0 p1 p2 p3 p4 p5 p6:Value) (f0 f1:Nat->Int):Jbq #[p0,.int .u8 (f0 0),.int .u8 (f0 1),.int .u8 (f0 2),.int .u8 (f0 3),.int .u8 (f0 4),.int .u8 (f0 5),.int .u8 (f0 6),.int .u8 (f0 7),.int .u8 (f0 8),.int .u8 (f0 9),.int .u8 (f0 10),.int .u8 (f0 11),.int .u8 (f0 12),.int .u8 (f0 13),.int .u8 (f0 14),.int .u8 (f0 15),p1,.int .u8 (f1 0),.int .u8 (f1 1),.int .u8 (f1 2),.int .u8 (f1 3),.int .u8 (f1 4),.int .u8 (f1 5),.int .u8 (f1 6),.int .u8 (f1 7),.int .u8 (f1 8),.int .u8 (f1 9),.int .u8 (f1 10),.int .u8 (f1 11),.int .u8 (f1 12),.int .u8 (f1 13),.int .u8 (f1 14),.int .u8 (f1 15),p2,.int .u16 0,.int .u16 0,p3,.int .u8 0,p4,p5,p6]:=.m
def JbP (p0 p1 p2 p3 p4 p5:Value) (f0 f1:Nat->Int):Jbq #[.int .u8 0,p0,.int .u16 0,p1,p2,.int .u16 0,p3,p4,.int .u8 (f0 0),.int .u8 (f0 1),.int .u8 (f0 2),.int .u8 (f0 3),.int .u8 (f1 0),.int .u8 (f1 1),.int .u8 (f1 2),.int .u8 (f1 3),p5]:=.m
def JbQ (p0 p1 p2 p3 p4:Value):Jbq #[p0,.int .u8 0,.int .u8 0,.int .u8 0,.int .u8 0,.int .u8 0,.int .u8 0,.int .u8 0,.int .u8 0,.int .u8 0,.int .u8 0,.int .u8 0,.int .u8 0,.int .u8 0,.int .u8 0,.int .u8 0,.int .u8 0,p1,.int .u8 0,.int .u8 0,.int .u8 0,.int .u8 0,.int .u8 0,.int .u8 0,.int .u8 0,.int .u8 0,.int .u8 0,.int .u8 0,.int .u8 0,.int .u8 0,.int .u8 0,.int .u8 0,.int .u8 0,.int .u8 0,.int .u8 0,.int .u16 0,.int .u16 0,p2,.int .u8 0,p3,.slice none 0 0,p4]:=.m
def JbR (p0 p1 p2 p3 p4 p5 p6 p7 p8 p9 p10:Value):Jbq #[p0,p1,p2,p3,p4,p5,p6,p7,p8,p9,p10]:=.m
def JbS (p0 p1 p2 p3 p4 p5 p6 p7 p8 p9 p10 p11 p12 p13 p14 p15 p16 p17 p18 p19 p20 p21 p22 p23 p24 p25 p26 p27 p28 p29 p30 p31:Value):Jbq #[.int .u8 0,.int .u32 0,.int .u16 0,.int .u8 0,.int .u8 0,p0,p1,p2,p3,p4,p5,p6,p7,p8,p9,p10,p11,p12,p13,p14,p15,p16,p17,p18,p19,p20,p21,p22,p23,p24,p25,p26,p27,p28,p29,p30,p31]:=.m
def JbT (p0 p1 p2 p3 p4 p5:Value) (f0 f1:Nat->Int):Jbq #[p0,.int .u8 (f0 0),.int .u8 (f0 1),.int .u8 (f0 2),.int .u8 (f0 3),.int .u8 (f0 4),.int .u8 (f0 5),.int .u8 (f0 6),.int .u8 (f0 7),.int .u8 (f0 8),.int .u8 (f0 9),.int .u8 (f0 10),.int .u8 (f0 11),.int .u8 (f0 12),.int .u8 (f0 13),.int .u8 (f0 14),.int .u8 (f0 15),p1,.int .u8 (f1 0),.int .u8 (f1 1),.int .u8 (f1 2),.int .u8 (f1 3),.int .u8 (f1 4),.int .u8 (f1 5),.int .u8 (f1 6),.int .u8 (f1 7),.int .u8 (f1 8),.int .u8 (f1 9),.int .u8 (f1 10),.int .u8 (f1 11),.int .u8 (f1 12),.int .u8 (f1 13),.int .u8 (f1 14),.int .u8 (f1 15),p2,p3,p4,.int .u8 0,p5]:=.m
def JbU:Jbq #[.int .u8 0,.int .u16 0,.int .u16 0,.int .u32 0,.int .u32 0,.int .u8 0,.int .u16 0,.int .u16 0,.slice none 0 0,.int .u8 0,.int .u8 0,.slice none 0 0]:=.m
def JbV (p0 p1 p2:Value):Jbq #[p0,.int .u8 0,.int .u8 0,p1,.int .u8 0,.int .u8 0,.int .u8 0,p2]:=.m
def JbW:Jbq #[.int .u8 0,.int .u32 0,.int .u16 0,.int .u8 0,.int .u8 0,.string ⟨#[]⟩,.string ⟨#[]⟩]:=.m
def JbX (p0 p1 p2 p3 p4 p5 p6:Value):Jbq #[.int .u8 0,p0,.int .u16 0,p1,p2,.int .u16 0,p3,p4,p5,p6,.string ⟨#[]⟩]:=.m
def JbY (p0 p1 p2 p3:Value):Jbq #[p0,.int .u8 0,p1,p2,.int .u8 0,.int .u8 0,.int .u8 0,p3]:=.m
def JbZ (p0 p1 p2 p3 p4 p5:Value):Jbq #[p0,p1,p2,p3,p4,.int .u8 0,p5]:=.m
def Jb0 (p0 p1 p2 p3 p4 p5 p6 p7 p8 p9 p10 p11 p12 p13 p14 p15:Value):Jbq #[p0,p1,p2,p3,p4,p5,p6,p7,p8,p9,p10,p11,p12,p13,p14,p15]:=.m
def Jb1 (f0:Nat->Int):Jbq #[.int .u8 (f0 0),.int .u8 (f0 1),.int .u8 (f0 2),.int .u8 (f0 3),.int .u8 (f0 4),.int .u8 (f0 5),.int .u8 (f0 6),.int .u8 (f0 7),.int .u8 (f0 8),.int .u8 (f0 9),.int .u8 (f0 10),.int .u8 (f0 11),.int .u8 (f0 12),.int .u8 (f0 13),.int .u8 (f0 14),.int .u8 (f0 15)]:=.m
def Jb2 (p0 p1:Value):Jbq #[.int .u8 0,.int .u16 0,.int .u16 0,p0,p1,.int .u16 0,.int .u8 0,.int .u8 0,.int .u8 0,.int .u8 0,.int .u8 0,.int .u8 0,.int .u8 0,.int .u8 0,.int .u8 0,.int .u8 0,.slice none 0 0]:=.m
def Jb3 (p0 p1:Value):Jbq #[.int .u8 0,p0,p1,.int .u32 0,.int .u32 0,.int .u8 0,.int .u16 0,.int .u16 0,.slice none 0 0,.int .u8 0,.int .u8 0,.slice none 0 0]:=.m
def Jb4 (p0 p1 p2:Value):Jbq #[.int .u8 0,p0,p1,.int .u32 0,.int .u32 0,.int .u8 0,.int .u16 0,.int .u16 0,.slice none 0 0,.int .u8 0,.int .u8 0,p2]:=.m
def Jb5 (p0 p1 p2 p3 p4 p5 p6:Value):Jbq #[p0,.int .u8 0,.int .u8 0,.int .u8 0,.int .u8 0,.int .u8 0,.int .u8 0,.int .u8 0,.int .u8 0,.int .u8 0,.int .u8 0,.int .u8 0,.int .u8 0,.int .u8 0,.int .u8 0,.int .u8 0,p1,p2,.int .u8 0,.int .u8 0,.int .u8 0,.int .u8 0,.int .u8 0,.int .u8 0,.int .u8 0,.int .u8 0,.int .u8 0,.int .u8 0,.int .u8 0,.int .u8 0,.int .u8 0,.int .u8 0,.int .u8 0,p3,p4,p5,p6]:=.m
def Jb6 (p0 p1 p2 p3 p4 p5 p6 p7 p8 p9 p10 p11:Value):Jbq #[p0,p1,.int .u8 0,.int .u8 0,p2,.int .u8 0,.int .u8 0,.int .u8 0,.int .u8 0,.int .u8 0,.int .u8 0,.int .u8 0,.int .u8 0,.int .u8 0,.int .u8 0,.int .u8 0,.int .u8 0,p3,p4,.int .u8 0,.int .u8 0,p5,.int .u8 0,.int .u8 0,.int .u8 0,.int .u8 0,.int .u8 0,.int .u8 0,.int .u8 0,.int .u8 0,.int .u8 0,.int .u8 0,.int .u8 0,.int .u8 0,p6,p7,p8,p9,p10,p11]:=.m
def Jb7 (p0 p1 p2 p3:Value):Jbq #[p0,p1,p2,.int .u32 0,.int .u32 0,.int .u8 0,.int .u16 0,.int .u16 0,.slice none 0 0,.int .u8 0,.int .u8 0,p3]:=.m
def Jb8 (p0 p1 p2 p3 p4:Value):Jbq #[p0,p1,p2,.int .u32 0,.int .u32 0,p3,.int .u16 0,.int .u16 0,.slice none 0 0,.int .u8 0,.int .u8 0,p4]:=.m
def Jb9 (p0 p1 p2 p3:Value):Jbq #[p0,.int .u16 0,.int .u16 0,.int .u32 0,.int .u32 0,.int .u8 0,.int .u16 0,.int .u16 0,.slice none 0 0,p1,p2,p3]:=.m
def Jca (p0 p1 p2:Value):Jbq #[.int .u8 0,.int .u16 0,.int .u16 0,.int .u32 0,.int .u32 0,.int .u8 0,.int .u16 0,.int .u16 0,.slice none 0 0,p0,p1,p2]:=.m
def Jcb (p0 p1 p2 p3 p4 p5 p6:Value):Jbq #[.int .u8 0,p0,p1,p2,p3,p4,p5,p6,.slice none 0 0,.int .u8 0,.int .u8 0,.slice none 0 0]:=.m
def Jcc (p0 p1 p2 p3 p4 p5 p6 p7:Value):Jbq #[.int .u8 0,p0,p1,p2,p3,p4,p5,p6,p7,.int .u8 0,.int .u8 0,.slice none 0 0]:=.m
def Jcd (p0 p1 p2 p3 p4 p5 p6 p7 p8:Value):Jbq #[.int .u8 0,p0,p1,p2,p3,p4,p5,p6,p7,.int .u8 0,.int .u8 0,p8]:=.m
def Jce (p0 p1 p2 p3 p4 p5 p6 p7 p8:Value):Jbq #[p0,p1,.int .u8 0,.int .u8 0,p2,.int .u8 0,.int .u8 0,.int .u8 0,.int .u8 0,.int .u8 0,.int .u8 0,.int .u8 0,.int .u8 0,.int .u8 0,.int .u8 0,.int .u8 0,.int .u8 0,p3,p4,.int .u8 0,.int .u8 0,p5,.int .u8 0,.int .u8 0,.int .u8 0,.int .u8 0,.int .u8 0,.int .u8 0,.int .u8 0,.int .u8 0,.int .u8 0,.int .u8 0,.int .u8 0,.int .u8 0,p6,p7,p8]:=.m
def Jcf (p0 p1 p2 p3 p4 p5 p6 p7:Value):Jbq #[p0,p1,.int .u8 0,.int .u8 0,p2,.int .u8 0,.int .u8 0,.int .u8 0,.int .u8 0,.int .u8 0,.int .u8 0,.int .u8 0,.int .u8 0,.int .u8 0,.int .u8 0,.int .u8 0,.int .u8 0,p3,p4,.int .u8 0,.int .u8 0,p5,.int .u8 0,.int .u8 0,.int .u8 0,.int .u8 0,.int .u8 0,.int .u8 0,.int .u8 0,.int .u8 0,.int .u8 0,.int .u8 0,.int .u8 0,.int .u8 0,p6,.int .u16 0,p7]:=.m
def Jcg (p0 p1 p2 p3 p4 p5 p6 p7 p8 p9 p10:Value):Jbq #[p0,p1,.int .u16 0,p2,p3,p4,p5,p6,p7,p8,p9,p10]:=.m
def Jch (p0 p1 p2 p3 p4:Value):Jbq #[.int .u8 0,.int .u32 0,p0,p1,p2,p3,p4]:=.m
def Jci (p0 p1 p2 p3 p4:Value):Jbq #[p0,.int .u8 0,.int .u8 0,.int .u8 0,.int .u8 0,.int .u8 0,.int .u8 0,.int .u8 0,.int .u8 0,.int .u8 0,.int .u8 0,.int .u8 0,.int .u8 0,.int .u8 0,.int .u8 0,.int .u8 0,.int .u8 0,p1,.int .u8 0,.int .u8 0,.int .u8 0,.int .u8 0,.int .u8 0,.int .u8 0,.int .u8 0,.int .u8 0,.int .u8 0,.int .u8 0,.int .u8 0,.int .u8 0,.int .u8 0,.int .u8 0,.int .u8 0,.int .u8 0,p2,p3,p4]:=.m
def Jcj:Jbq #[.int .u8 0,.int .u8 0,.int .u8 0,.int .u8 0,.int .u8 0,.int .u8 0,.int .u8 0,.int .u8 0,.int .u8 0,.int .u8 0,.int .u8 0,.int .u8 0,.int .u8 0,.int .u8 0,.int .u8 0,.int .u8 0]:=.m
def Jck (f0:Nat->Int):Jbq #[.int .u8 (f0 0),.int .u8 (f0 1),.int .u8 (f0 2),.int .u8 (f0 3),.int .u8 0,.int .u8 0,.int .u8 0,.int .u8 0,.int .u8 0,.int .u8 0,.int .u8 0,.int .u8 0,.int .u8 0,.int .u8 0,.int .u8 0,.int .u8 0]:=.m
def Jcl (p0 p1 p2 p3 p4:Value):Jbq #[p0,p1,p2,p3,p4,.int .u8 0,.int .u8 0,.int .u8 0,.int .u8 0,.int .u8 0,.int .u8 0,.int .u8 0,.int .u8 0,.int .u8 0,.int .u8 0,.int .u8 0,.int .u8 0]:=.m
def Jcm (p0 p1 p2 p3 p4:Value):Jbq #[.int .u8 0,.int .u16 0,.int .u16 0,p0,p1,.int .u16 0,.int .u8 0,.int .u8 0,p2,p3,p4]:=.m
def Jcn:Jbq #[.int .u8 0,.int .u32 0,.int .u16 0,.int .u8 0,.int .u8 0,.int .u8 0,.int .u8 0,.int .u8 0,.int .u8 0,.int .u8 0,.int .u8 0,.int .u8 0,.int .u8 0,.int .u8 0,.int .u8 0,.int .u8 0,.int .u8 0,.int .u8 0,.int .u8 0,.int .u8 0,.int .u8 0,.int .u8 0,.int .u8 0,.int .u8 0,.int .u8 0,.int .u8 0,.int .u8 0,.int .u8 0,.int .u8 0,.int .u8 0,.int .u8 0,.int .u8 0,.int .u8 0,.int .u8 0,.int .u8 0,.int .u8 0,.int .u8 0]:=.m
def Jco (p0 p1 p2:Value):Jbq #[p0,.int .u8 0,.int .u8 0,.int .u8 0,.int .u8 0,.int .u8 0,.int .u8 0,.int .u8 0,.int .u8 0,.int .u8 0,.int .u8 0,.int .u8 0,.int .u8 0,.int .u8 0,.int .u8 0,.int .u8 0,.int .u8 0,p1,.int .u8 0,.int .u8 0,.int .u8 0,.int .u8 0,.int .u8 0,.int .u8 0,.int .u8 0,.int .u8 0,.int .u8 0,.int .u8 0,.int .u8 0,.int .u8 0,.int .u8 0,.int .u8 0,.int .u8 0,.int .u8 0,.int .u8 0,.int .u16 0,.int .u16 0,.int .u8 0,p2]:=.m
def Jcp (p0 p1 p2 p3 p4:Value) (f0 f1:Nat->Int):Jbq #[.int .u8 0,p0,.int .u16 0,p1,p2,.int .u16 0,p3,p4,.int .u8 (f0 0),.int .u8 (f0 1),.int .u8 (f0 2),.int .u8 (f0 3),.int .u8 (f1 0),.int .u8 (f1 1),.int .u8 (f1 2),.int .u8 (f1 3),.slice none 0 0]:=.m
def Jcq (p0 p1 p2 p3 p4 p5 p6 p7 p8 p9 p10:Value):Jbq #[p0,p1,.int .u8 0,.int .u8 0,p2,.int .u8 0,.int .u8 0,.int .u8 0,.int .u8 0,.int .u8 0,.int .u8 0,.int .u8 0,.int .u8 0,.int .u8 0,.int .u8 0,.int .u8 0,.int .u8 0,p3,p4,.int .u8 0,.int .u8 0,p5,.int .u8 0,.int .u8 0,.int .u8 0,.int .u8 0,.int .u8 0,.int .u8 0,.int .u8 0,.int .u8 0,.int .u8 0,.int .u8 0,.int .u8 0,.int .u8 0,p6,p7,p8,p9,p10]:=.m
def Jcr (p0 p1 p2 p3 p4 p5 p6 p7 p8:Value):Jbq #[p0,p1,.int .u8 0,.int .u8 0,p2,.int .u8 0,.int .u8 0,.int .u8 0,.int .u8 0,.int .u8 0,.int .u8 0,.int .u8 0,.int .u8 0,.int .u8 0,.int .u8 0,.int .u8 0,.int .u8 0,p3,p4,.int .u8 0,.int .u8 0,p5,.int .u8 0,.int .u8 0,.int .u8 0,.int .u8 0,.int .u8 0,.int .u8 0,.int .u8 0,.int .u8 0,.int .u8 0,.int .u8 0,.int .u8 0,.int .u8 0,p6,.int .u16 0,p7,.int .u8 0,p8]:=.m
def Jcs (p0 p1 p2 p3 p4 p5 p6 p7:Value):Jbq #[p0,.int .u8 0,.int .u8 0,.int .u8 0,.int .u8 0,.int .u8 0,.int .u8 0,.int .u8 0,.int .u8 0,.int .u8 0,.int .u8 0,.int .u8 0,.int .u8 0,.int .u8 0,.int .u8 0,.int .u8 0,p1,p2,.int .u8 0,.int .u8 0,.int .u8 0,.int .u8 0,.int .u8 0,.int .u8 0,.int .u8 0,.int .u8 0,.int .u8 0,.int .u8 0,.int .u8 0,.int .u8 0,.int .u8 0,.int .u8 0,.int .u8 0,p3,p4,p5,p6,.int .u8 0,p7]:=.m
def Jct (p0 p1 p2 p3 p4 p5 p6:Value) (f0 f1:Nat->Int):Jbq #[p0,.int .u8 (f0 0),.int .u8 (f0 1),.int .u8 (f0 2),.int .u8 (f0 3),.int .u8 (f0 4),.int .u8 (f0 5),.int .u8 (f0 6),.int .u8 (f0 7),.int .u8 (f0 8),.int .u8 (f0 9),.int .u8 (f0 10),.int .u8 (f0 11),.int .u8 (f0 12),.int .u8 (f0 13),.int .u8 (f0 14),.int .u8 (f0 15),p1,.int .u8 (f1 0),.int .u8 (f1 1),.int .u8 (f1 2),.int .u8 (f1 3),.int .u8 (f1 4),.int .u8 (f1 5),.int .u8 (f1 6),.int .u8 (f1 7),.int .u8 (f1 8),.int .u8 (f1 9),.int .u8 (f1 10),.int .u8 (f1 11),.int .u8 (f1 12),.int .u8 (f1 13),.int .u8 (f1 14),.int .u8 (f1 15),p2,p3,p4,p5,.int .u8 0,p6]:=.m
def Jcu (p0 p1 p2 p3 p4 p5:Value) (f0 f1:Nat->Int):Jbq #[p0,.int .u8 (f0 0),.int .u8 (f0 1),.int .u8 (f0 2),.int .u8 (f0 3),.int .u8 (f0 4),.int .u8 (f0 5),.int .u8 (f0 6),.int .u8 (f0 7),.int .u8 (f0 8),.int .u8 (f0 9),.int .u8 (f0 10),.int .u8 (f0 11),.int .u8 (f0 12),.int .u8 (f0 13),.int .u8 (f0 14),.int .u8 (f0 15),p1,.int .u8 (f1 0),.int .u8 (f1 1),.int .u8 (f1 2),.int .u8 (f1 3),.int .u8 (f1 4),.int .u8 (f1 5),.int .u8 (f1 6),.int .u8 (f1 7),.int .u8 (f1 8),.int .u8 (f1 9),.int .u8 (f1 10),.int .u8 (f1 11),.int .u8 (f1 12),.int .u8 (f1 13),.int .u8 (f1 14),.int .u8 (f1 15),p2,p3,.int .u16 0,p4,.int .u8 0,p5]:=.m
def Jcv (p0 p1 p2 p3 p4 p5 p6:Value) (f0 f1:Nat->Int):Jbq #[.int .u8 0,p0,.int .u16 0,p1,p2,p3,p4,p5,.int .u8 (f0 0),.int .u8 (f0 1),.int .u8 (f0 2),.int .u8 (f0 3),.int .u8 (f1 0),.int .u8 (f1 1),.int .u8 (f1 2),.int .u8 (f1 3),p6]:=.m
def Jcw (p0 p1:Value):Jbq #[p0,.int .u8 0,.int .u8 0,p1,.int .u8 0,.int .u8 0,.int .u8 0,.int .u8 0,.int .u8 0,.int .u8 0,.int .u8 0,.int .u8 0,.int .u8 0,.int .u8 0,.int .u8 0,.int .u8 0]:=.m
def Jcx (p0 p1 p2:Value):Jbq #[p0,.int .u8 0,p1,p2,.int .u8 0,.int .u8 0,.int .u8 0,.int .u8 0,.int .u8 0,.int .u8 0,.int .u8 0,.int .u8 0,.int .u8 0,.int .u8 0,.int .u8 0,.int .u8 0]:=.m
def Jcy (p0 p1 p2 p3 p4 p5 p6 p7 p8 p9 p10 p11 p12 p13 p14 p15 p16 p17 p18 p19 p20 p21 p22:Value) (f0:Nat->Int):Jbq #[p0,.int .u8 (f0 0),.int .u8 (f0 1),.int .u8 (f0 2),.int .u8 (f0 3),.int .u8 (f0 4),.int .u8 (f0 5),.int .u8 (f0 6),.int .u8 (f0 7),.int .u8 (f0 8),.int .u8 (f0 9),.int .u8 (f0 10),.int .u8 (f0 11),.int .u8 (f0 12),.int .u8 (f0 13),.int .u8 (f0 14),.int .u8 (f0 15),p1,p2,p3,p4,p5,p6,p7,p8,p9,p10,p11,p12,p13,p14,p15,p16,p17,p18,p19,p20,p21,p22]:=.m
inductive Jcz (p:Prop)|m
instance (p:Prop):CoeSort (Jcz p) Prop:=⟨λ_=>p⟩
instance (p:Prop):CoeOut (Jcz p) Prop:=⟨λ_=>p⟩
def Jf (f:FuncId)(a:Array Value)(w:World)(R:Ending->World->Prop):Jcz (Calls Tryz.prog f a w R):=.m
def Jg (w:World)(b k:Nat)(v:Value):Jcz (w.cell? ⟨b,k,none⟩=some v):=.m
def Jh (w:World)(b:Nat)(c:Array Value)(t:TypeId):Jcz (w.heap[b]? =some (.cells c t (0,0))):=.m
def Ji (w z:World):Jcz (RowKit.Below w.heap.size w z):=.m
def Jm (x:Int):Jcz (0<=x/\x<256):=.m
def Jn (x:Int):Jcz (0<=x/\x<65536):=.m
def Jl (x:Int):Jbp (.int .u16 x):=.m
def Jp (x:Int):Jbp (.int .u32 x):=.m
def Jo (x:Int):Jbp (.int .u64 x):=.m
def Jk (x:Int):Jbp (.int .i64 x):=.m
def Jq (x:Int):Jbp (.int .u8 x):=.m
def Jr (f:FuncId):Jbp (.func (.func f) #[] #[]):=.m
def Jj (b:Nat):Jbp (.pointer (some ⟨b,0,none⟩)):=.m
theorem H {p:Prop}(h:p):RowKit.Hid p:=Lib.hid h
theorem Ja {α:Type}{a:Array α}{i:Nat}{b:α}(h:a[i]? =some b):∃h:i<a.size,a[i]=b:=Array.getElem?_eq_some_iff.1 h
abbrev Jb:=@Calls.mono
theorem Jc (B:Nat)(w:World):RowKit.Below B w w:=RowKit.Below.refl B w
theorem Jd {a b c:Nat}(h:a<b)(k:b<=c):a<c:=Nat.lt_of_lt_of_le h k
abbrev Je:=@Nat.le_refl
theorem K {p:Prop}(h:p:=by kernel_rfl):p:=h
theorem O {p:Prop}(h:p:=by omega):p:=h
theorem D {p:Prop}(h:p:=by decide):p:=h
abbrev WG:=@Nat.zero_le
abbrev WH:=@Go.World.cell?_of_block
abbrev WI:=@Go.World.frozen?_of_block
abbrev WJ:=@Nat.le_trans
abbrev WK:=@Go.RowKit.Below.heap_setCell
abbrev WL:=@List.eq_nil_of_length_eq_zero
abbrev WM:=@Nat.zero_add
abbrev WN:=@Go.cell_of_row
abbrev WO:=@List.getElem?_take
abbrev WP:=@Go.heap_alloc_new
abbrev WQ:=@Nat.mul_le_mul_right
abbrev WR:=@List.length_take
abbrev WS:=@Array.length_toList
abbrev WT:=@Go.info_parts
abbrev WU:=@Nat.add_assoc
abbrev WV:=@List.length_append
abbrev WW:=@Go.World.keptBut_setCells
abbrev WX:=@List.getElem?_append_left
abbrev WY:=@Go.World.cell?_setCells_out
abbrev WZ:=@List.getElem?_append_right
abbrev W0:=@List.getElem?_eq_some_iff
abbrev W1:=@Go.World.cell?_setCells_in
abbrev W2:=@List.getElem?_eq_getElem
abbrev W3:=@Go.Addr.add_lit
abbrev W4:=@List.length_drop
abbrev W5:=@List.getElem?_eq_none
abbrev W6:=@List.getElem?_drop
abbrev W7:=@Option.isSome_iff_exists
abbrev W8:=@Go.World.cell?_setCell_same
abbrev W9:=@Go.World.cell?_setCell_other
abbrev Ya:=@Go.World.frozen?_setCell
abbrev Yb:=@Option.map_eq_some_iff
abbrev Yc:=@Int.natCast_nonneg
abbrev Yd:=@Int.ofNat_le
abbrev Ye:=@List.mem_append
abbrev Yf:=@List.mem_cons_self
abbrev Yg:=@List.mem_cons_of_mem
abbrev Yh:=@Nat.lt_or_ge
abbrev Yi:=@List.getD_eq_getElem?_getD
abbrev Yj:=@List.getElem_mem
abbrev Yk:=@List.getElem?_map
abbrev Yl:=@List.mem_of_mem_drop
abbrev Ym:=@List.mem_of_mem_take
abbrev Yn:=@Go.run_underlying
abbrev Yo:=@Nat.eq_zero_or_pos
abbrev Yp:=@Option.some.inj
abbrev Yq:=@List.mem_map
abbrev Yr:=@Go.RowKit.Below.grown
abbrev Ys:=@List.length_singleton
abbrev Yt:=@List.take_succ_eq_append_getElem
abbrev Yu:=@Nat.mod_lt
abbrev Yv:=@Nat.mod_eq_of_lt
abbrev Yw:=@if_neg
abbrev Yx:=@List.cons_append
abbrev Yy:=@List.length_cons
abbrev Yz:=@decide_eq_true
abbrev YA:=@decide_eq_false
abbrev YB:=@beq_false_of_ne
abbrev YC:=@Int.le_refl
abbrev YD:=@List.mem_of_getElem?
abbrev YE:=@List.mem_cons
abbrev YF:=@List.not_mem_nil
abbrev YG:=@or_false
abbrev YH:=@if_pos
abbrev YI:=@List.mem_singleton
abbrev YJ:=@Go.wpOp_of_qOp
abbrev YK:=@Go.mem_ready
abbrev YL:=@Go.ready_mono
abbrev YM:=@Go.getD_set_ne
abbrev YN:=@Array.setIfInBounds_comm
abbrev YO:=@Bool.and_eq_true
abbrev YP:=@Go.Region.noSelect_spec
abbrev YQ:=@Go.Region.free_spec
abbrev YR:=@Nat.add_comm
abbrev YS:=@decide_eq_true_eq
abbrev YT:=@Go.wp_region_any
abbrev YU:=@Go.heap_alloc_old
abbrev YV:=@Array.getElem?_modify
abbrev YW:=@if_true
abbrev YX:=@Go.heap_setCell_other
abbrev YY:=@Array.ext_getElem?
abbrev YZ:=@Array.getElem?_push
abbrev Y0:=@Go.Sem.run_bind
abbrev Y1:=@Array.all_toList
abbrev Y2:=@beq_iff_eq
abbrev Y3:=@Bool.false_or
abbrev Y4:=@List.all_eq_true
abbrev Y5:=@List.mem_range
abbrev Y6:=@List.take_succ_cons
abbrev Y7:=@List.take_zero
abbrev Y8:=@List.drop_succ_cons
abbrev Y9:=@List.drop_zero
abbrev Jaa:=@Go.wpQuiet_nil
abbrev Jab:=@Go.heap_alloc2_old
abbrev Jac:=@Go.heap_alloc2_new
abbrev Jad:=@Go.frozen_of_row
abbrev Jae:=@Go.heap_setCell_same
abbrev Jaf:=@Go.setRow_heap
abbrev Jag:=@Go.bodyPost_ret
abbrev Jah:=@List.nil_append
abbrev Jai:=@Go.World.size_alloc
abbrev Jaj:=@List.map_append
abbrev Jak:=@Int.toNat_natCast
abbrev Jal:=@Nat.add_zero
abbrev Jam:=@Nat.lt_succ_self
abbrev Jan:=@dif_pos
abbrev Jao:=@List.append_assoc
abbrev Jap:=@List.map_cons
abbrev Jaq:=@Int.eq_ofNat_of_zero_le
abbrev Jar:=@Go.World.block_lt_of_cell?
abbrev Jas:=@List.drop_eq_getElem_cons
abbrev Jat:=@ByteArray.size_data
abbrev Jau:=@List.length_nil
abbrev Jav:=@List.take_of_length_le
abbrev Jaw:=@Int.tdiv_eq_ediv_of_nonneg
abbrev Jax:=@Int.tmod_eq_emod_of_nonneg
abbrev Jay:=@Go.IntWalk.i64_in
abbrev Jaz:=@List.length_map
abbrev JaA:=@Nat.mul_one
abbrev JaB:=@Nat.and_two_pow_sub_one_eq_mod
abbrev JaC:=@List.dropLast_concat_getLast
abbrev JaD:=@List.cons.injEq
abbrev JaE:=@Go.WideShapes.bytes_inj
abbrev JaF:=@List.mapM_cons
abbrev JaG:=@Go.IntKind.wrap_u64
abbrev JaH:=@List.drop_eq_nil_of_le
abbrev JaI:=@Go.IntKind.wrap_i64
abbrev JaJ:=@List.mem_replicate
abbrev JaK:=@List.size_toArray
abbrev JaL:=@Bool.false_eq_true
abbrev JaM:=@List.map_nil
abbrev JaN:=@Go.execOp_put
abbrev JaO:=@Go.wanted_put
abbrev JaP:=@Go.Oper.apart_spec
abbrev JaQ:=@Go.Act.put_comm
abbrev JaR:=@Array.getElem?_setIfInBounds
abbrev JaS:=@Go.Oper.upon_enter
abbrev JaT:=@List.contains_iff_mem
abbrev JaU:=@Go.getD_set_true
abbrev JaV:=@of_decide_eq_true
abbrev JaW:=@Bool.not_eq_true'
abbrev JaX:=@Array.getD_eq_getD_getElem?
abbrev JaY:=@List.pairwise_cons
abbrev JaZ:=@Nat.le_succ
abbrev Ja0:=@List.getElem?_cons_succ
abbrev Ja1:=@Nat.le_of_lt
abbrev Ja2:=@List.append_nil
abbrev Ja3:=@List.flatten_append
abbrev Ja4:=@List.flatten_cons
abbrev Ja5:=@Go.setRow_other
abbrev Ja6:=@List.setIfInBounds_toArray
abbrev Ja7:=@List.set_cons_succ
abbrev Ja8:=@List.set_cons_zero
abbrev Ja9:=@of_decide_eq_false
abbrev Jba:=@List.zip_cons_cons
abbrev Jbb:=@List.zip_nil_left
abbrev Jbc:=@Nat.lt_trans
abbrev Jbd:=@Nat.le_of_ble_eq_true
abbrev Jbe:=@Go.strOfNums_size
abbrev Jbf:=@List.getElem?_cons_zero
abbrev Jbg:=@Int.emod_eq_of_lt
abbrev Jbh:=@Nat.le_of_eq
abbrev Jbi:=@Go.IntKind.wrap_u16
abbrev Jbj:=@Go.IntKind.wrap_u8
abbrev Jbk:=@Go.IntWalk.wrap64_in
theorem WF {w:World}{b:Nat}{cs:Array Value}{t:TypeId}(k:Nat)(h:w.heap[b]? =some (.cells cs t (0,0))):w.cell? ⟨b,k,none⟩=cs[k]? :=cell_of_row _ _ k _ _ (0,0) h
section
open Go.RowKit
theorem US (w:World):(w.heap.size<w.heap.size+1+1)=True:=eq_true O
attribute [go_sem] US
structure J2 (w:World) where
 world:World
 below:Ji w world
instance (w:World):Nonempty (J2 w):=⟨⟨w,Jc _ _⟩⟩
theorem J2.cell {w:World}(x:J2 w)(b o:Nat)(h:b<w.heap.size):x.world.cell? ⟨b,o,none⟩=w.cell? ⟨b,o,none⟩:=x.below.cell (p:=⟨b,o,none⟩) h
theorem J2.frozen {w:World}(x:J2 w)(b o:Nat)(h:b<w.heap.size):x.world.frozen? ⟨b,o,none⟩=w.frozen? ⟨b,o,none⟩:=x.below.frozen (p:=⟨b,o,none⟩) h
attribute [go_sem] J2.cell J2.frozen
def Jz (w:World)(v:Value):Ending->World->Prop:=λe d=>e=.returned v/\Ji w d
theorem Jz.mk {w d:World}{v b:Value}(h:b=v)(e:Ji w d):Jz w v (.returned b) d:=⟨by rw[h],e⟩
theorem Calls.later {P:Program}{f:FuncId}{b:Array Value}{w:World}{v:Value}{e:Ending->World->Prop}
 (h:Calls P f b w (Jz w v))(k:∀x:J2 w,e (.returned v) x.world):Calls P f b w e:=
 h.mono λ_ d ⟨j,g⟩=>by subst j;exact k ⟨d,g⟩
theorem Wz {P:Program}{f:FuncId}{b:Array Value}{a:World}{x:J2 a}{v:Value}{e:Ending->World->Prop}
 (h:Calls P f b x.world (Jz x.world v))(k:∀Q:J2 a,e (.returned v) Q.world):Calls P f b x.world e:=
 h.mono λ_ d ⟨j,g⟩=>by subst j;exact k ⟨d,x.below.trans (g.mono x.below.size)⟩
theorem J6 {a b:Bool}(h:a=b):Value.bool a=.bool b:=by rw[h]
theorem Za {k:IntKind}{a b:Int}(h:a=b):Value.int k a=.int k b:=by rw[h]
theorem Wy {b:Program}{f:FuncId}{e:Array Value}{a:World}{C:Obj}{v:Value}{j:Ending->World->Prop}
 (h:Calls b f e (a.alloc C) (Jz (a.alloc C) v))(k:∀Q:J2 a,j (.returned v) Q.world):Calls b f e (a.alloc C) j:=
 h.mono λ_ d ⟨l,g⟩=>by subst l;exact k ⟨d,((Jc _ _).alloc (Je _) C).trans (g.mono (by simp))⟩
theorem Ww {w a:World}{x:J2 a}(h:Ji w a):Ji w x.world:=h.trans (x.below.mono h.size)
theorem Below.all {w d:World}(h:Ji w d)(g:Obj):Below w.heap.size w (d.alloc g):=h.alloc h.size g
theorem Wx {w b d:World}(h:Ji w b)(e:Ji b d):Ji w d:=h.trans (e.mono h.size)
theorem JD {P:Program}{f:FuncId}{b:Array Value}{w:World}{x:J2 w}{v:Value}
 (h:Calls P f b x.world (Jz x.world v)):Calls P f b x.world λe j=>e=.returned v/\∃Q:J2 w,j=Q.world:=
 h.mono λ_ d ⟨l,g⟩=>⟨l,⟨d,x.below.trans (g.mono x.below.size)⟩,rfl⟩
theorem JM {P:Program}{id:Nat}{e:Exit->Act->World->Prop}{a:Act}{w:World}{l:List Oper}(W:P.follows .mixedOrders=true)(j:Region.lexB .any l.toArray=true)
 (h:wpQuiet P l.toArray (λd=>∃x:J2 w,d=x.world) (λb=>∀x:J2 w,e .normal b x.world) l a):(Code.region id l.toArray true).wp P e a w:=by
 refine wp_region_quiet (C:=λd=>∃x:J2 w,d=x.world) W j ⟨⟨_,(Jc _ _).drew⟩,rfl⟩ ?_
 have:(λb=>∀x:J2 w,e .normal b x.world)=(λb=>∀d,(∃x:J2 w,d=x.world)->e .normal b d):=by
  funext b;exact propext ⟨λh d ⟨x,g⟩=>g▸h x,λh x=>h _ ⟨x,rfl⟩⟩
 rw[<-this];simpa using h
end
section
open Go.RowKit
theorem JdY{p:Prop}(h:p:=by
 simp[sizeOf,typeInfo,j,y,sliced,JQ,Result.andThen]):p:=h
def JJ (p:Prop):Prop:=p
theorem JJ.of {p:Prop}(h:JJ p):p:=h
theorem JJ.mk {p:Prop}(h:p):JJ p:=h
structure J8 (w:World)(base size:Nat)(oa:Option Addr)(n cap:Nat)(xs:List Value):Prop where
 len:xs.length=n*size
 le:n<=cap
 max:cap<=maxLen
 at':(oa=none/\cap=0)\/∃g off,oa=some ⟨g,off,none⟩/\base<=g/\g<w.heap.size/\(∀j u,xs[j]? =some u->Jg w g (off+j) u)/\
  (∀j,j<cap*size->(w.cell? ⟨g,off+j,none⟩).isSome=true/\w.frozen? ⟨g,off+j,none⟩=false)
theorem J8.nil (w:World)(base size:Nat):J8 w base size none 0 0 []:=⟨by simp,Je _,WG _,.inl ⟨rfl,rfl⟩⟩
theorem J8.keep {w d:World}{t y:Nat}{s:Option Addr}{n o:Nat}{j:List Value}(h:J8 w t y s n o j)(z:w.heap.size<=d.heap.size)
 (A:∀a,s=some a->d.heap[a.block]? =w.heap[a.block]?):J8 d t y s n o j:=by
 refine⟨h.len,h.le,h.max,?_⟩;rcases h.at' with X|⟨r,b,rfl,g,E,I,F⟩
 ·exact .inl X
 ·have e:=A _ rfl;refine .inr ⟨r,b,rfl,g,Jd E z,λJ u B=>?_,λJ G=>?_⟩
  ·rw[WH (w:=w) (a:=⟨r,b+J,none⟩) e];exact I J u B
  ·rw[WH (w:=w) (a:=⟨r,b+J,none⟩) e,WI (w:=w) (a:=⟨r,b+J,none⟩) e];exact F J G
theorem J8.lt {w:World}{b y:Nat}{d:Option Addr}{n o:Nat}{t:List Value}(h:J8 w b y d n o t){a:Addr}(ha:d=some a):b<=a.block/\a.block<w.heap.size:=by
 rcases h.at' with ⟨z,-⟩|⟨B,A,e,g,j,-⟩
 ·rw[z] at ha;cases ha
 ·rw[e] at ha;cases ha;exact⟨g,j⟩
theorem J8.below {w d:World}{j e:Nat}{y:Option Addr}{n o:Nat}{b:List Value}(h:J8 w j e y n o b)(t:Ji w d):J8 d j e y n o b:=
 h.keep t.size λ_ ha=>t.block _ (h.lt ha).2
theorem J8.later {w:World}{e d:Nat}{s:Option Addr}{n o:Nat}{b:List Value}(h:J8 w e d s n o b)(x:J2 w):J8 x.world e d s n o b:=h.below x.below
theorem J8.alloc {w:World}{base size:Nat}{j:Option Addr}{n o:Nat}{d:List Value}(h:J8 w base size j n o d)(g:Obj):J8 (w.alloc g) base size j n o d:=
 h.below ((Jc _ _).alloc (Je _) g)
theorem J8.drew {w:World}{d b:Nat}{s:Option Addr}{n o:Nat}{a:List Value}(h:J8 w d b s n o a):J8 w.drew d b s n o a:=h.below (Jc _ _).drew
theorem J8.mono {w:World}{base base' size:Nat}{d:Option Addr}{n o:Nat}{b:List Value}(h:J8 w base size d n o b)(g:base'<=base):J8 w base' size d n o b:=
 ⟨h.len,h.le,h.max,h.at'.imp id λ⟨y,t,e,j,r⟩=>⟨y,t,e,WJ g j,r⟩⟩
theorem J8.grown {w d:World}{r:Option Nat}{j g:Nat}{s:Option Addr}{n o:Nat}{e:List Value}(h:J8 w j g s n o e)(b:w.grownBy d r)(t:∀a,s=some a->some a.block≠r):J8 d j g s n o e:=
 h.keep b.size λa ha=>b.block _ (h.lt ha).2 (t a ha)
theorem J8.other {w:World}{g e:Nat}{s:Option Addr}{n o:Nat}{b:List Value}(h:J8 w g e s n o b){p:Addr}(E:∀a,s=some a->a.block≠p.block)(j:Value):J8 (w.setCell p j) g e s n o b:=
 h.keep (by simp) λa ha=>WK _ _ _ _ (E a ha)
theorem J8.here {w:World}{g e:Nat}{s:Option Addr}{n o:Nat}{d:List Value}(h:J8 w g e s n o d)(j:0<n):
 ∃r b,s=some ⟨r,b,none⟩/\g<=r/\r<w.heap.size/\(∀J u,d[J]? =some u->Jg w r (b+J) u)/\
 (∀J,J<o*e->(w.cell? ⟨r,b+J,none⟩).isSome=true/\w.frozen? ⟨r,b+J,none⟩=false):=by
 rcases h.at' with ⟨-,I⟩|T
 ·have:=h.le;omega
 ·exact T
theorem J8.of_row {w:World}{j:Nat}{e:TypeId}{l:Nat}{v:Value}{n:Nat}{d:List Value}(h:w.ownsRow j e l v n d):
 ∃s o,v=.slice s n o/\J8 w j l s n o d:=by
 obtain⟨M,⟨rfl,rfl⟩|⟨r,o,p,rfl,g,b,y,W,B,t⟩⟩:=h
 ·have u:d=[]:=WL (by simpa using M);subst u;exact⟨none,0,rfl,J8.nil w j l⟩
 ·refine⟨_,_,rfl,M,y,W,.inr ⟨r,0,rfl,g,(Ja b).1,λJ z a=>?_,λJ A=>?_⟩⟩
  ·rw[WM,WN w r J p e (0,0) b];rw[<-t,WO] at a;split at a
   ·simpa using a
   ·cases a
  ·rw[WM,WN w r J p e (0,0) b];refine⟨by simp;omega,by simp[World.frozen?,b]⟩
theorem J8.made {w:World}{base size:Nat}(b:Array Value)(n o:Nat)(e:TypeId)(t:List Value)(g:base<=w.heap.size)(z:o*size<=b.size)(B:n<=o)(W:o<=maxLen)(s:b.toList.take (n*size)=t):
 J8 (w.alloc (.cells b e)) base size (some ⟨w.heap.size,0,none⟩) n o t:=by
 have r:Jh (w.alloc (.cells b e)) w.heap.size b e:=WP w _;have j:n*size<=o*size:=WQ _ B;refine⟨?_,B,W,.inr ⟨_,0,rfl,g,by simp,λJ u d=>?_,λJ A=>?_⟩⟩
 ·rw[<-s,WR,WS];omega
 ·rw[WM,WN _ _ J b e (0,0) r];rw[<-s,WO] at d;split at d
  ·simpa using d
  ·cases d
 ·rw[WM,WN _ _ J b e (0,0) r]
  have y:(w.alloc (.cells b e)).frozen? ⟨w.heap.size,J,none⟩=false:=by
   unfold World.frozen?;rw[r];simp
  exact⟨by simp;omega,y⟩
section
variable {P:Program}
theorem ZJ (w:World)(t N e:TypeId)(Q:Value)(g bytes Y:Nat)(S:P.underlying t=some (.slice e))(al:(P.info? e).map (λi=>(i.zero,i.size,i.bytes))=some (some Q,g,bytes))
 (ac:Q.cells.size=g)(aj:0<g)(s:Option Addr)(n o:Nat)(B:List Value)(p:J8 w Y g s n o B)
 (I:Addr)(m c:Nat)(b:List Value)(M:b.length=m*g)(T:∀J l,b[J]? =some l->w.cell? (I.add J)=some l)(ai:∀l∈b,l.oneCell'=true)
 (_hm:0<m)(ab:n+m<=maxLen)(ad:(n+m)*bytes<=140737488355328)(ae:Y<=w.heap.size):
 ∃z E d,(Builtin.append_ #[t,t] N #[.slice s n o,.slice (some I) m c]).run P w=.ok (.slice z (n+m) E) d/\J8 d Y g z (n+m) E (B++b)/\
  w.grownBy d (s.map Addr.block)/\(∀a,z=some a->s=some a\/w.heap.size<=a.block):=by
 obtain⟨i,F,ak,V,aa⟩:=WT al;rcases p.at' with ⟨rfl,rfl⟩|⟨r,j,rfl,ar,an,af,R⟩
 ·have ap:n=0:=by have:=p.le;omega
  subst ap;have ah:B=[]:=WL (by simpa using p.len);subst ah;obtain⟨av,d,u,Z,v,-⟩:=run_append_own (P:=P) w w.heap.size t N e i Q g bytes S F ak V aa ac aj _ 0 [] (World.ownsRow_nil w w.heap.size e g) I m c b M T ai ab ad (Je _);obtain⟨z,E,rfl,L⟩:=J8.of_row Z;exact⟨z,E,d,u,L.mono ae,by simpa[Value.ownBlock] using v,λa ha=>.inr (L.lt ha).1⟩
 ·by_cases X:n+m<=o
  ·have aB:n*g+b.length<=o*g:=by rw[M,<-Nat.add_mul];exact WQ _ X
   have U:∀J,J<b.length->(w.cell? ⟨r,j+n*g+J,none⟩).isSome=true:=λJ G=>by
    have:=(R (n*g+J) O).1;rwa [<-WU] at this
   have aw:∀J,J<b.length->w.frozen? ⟨r,j+n*g+J,none⟩=false:=λJ G=>by
    have:=(R (n*g+J) O).2;rwa [<-WU] at this
   subst V;have u:=run_append_room_cells (P:=P) w t N e i S F r j n o I m c b M T ai X U aw;refine⟨_,_,_,u,⟨by rw[WV,p.len,M,Nat.add_mul],X,p.max,.inr ⟨r,j,rfl,ar,?_,λJ l y=>?_,λJ G=>?_⟩⟩,?_,λa ha=>.inl ha⟩
   ·have A:=WW r (may:=λ_=>True) b (j+n*i.size) w (λ_ _=>trivial);exact Jd an A.size
   ·by_cases G:J<B.length
    ·rw[WX G] at y;rw[WY r b _ _ _ (λ_ _=>Or.inl (by simp only;have:=p.len;omega))];exact af J l y
    ·rw[WZ O] at y;have ag:=(W0.1 y).1;have:=W1 r b (j+n*i.size) w U (J-B.length) ag;have ah:=p.len;rw[show j+J=j+n*i.size+(J-B.length) from O,this,<-y,W2 ag]
   ·rw[World.frozen?_setCells];refine⟨?_,(R J G).2⟩;by_cases aA:n*i.size<=J/\J<n*i.size+b.length
    ·have:=W1 r b (j+n*i.size) w U (J-n*i.size) O;rw[show j+J=j+n*i.size+(J-n*i.size) from O,this];rfl
    ·rw[WY r b _ _ _ (λ_ _=>by simp only;omega)];exact(R J G).1
   ·have A:=WW r (may:=λay=>ay.block=r) b (j+n*i.size) w (λ_ _=>rfl)
    have ax:∀(W:List Value) (C:Nat) (w:World),(w.setCells r C W).tape=w.tape:=by
     intro W;induction W with
     |nil=>intro C w;rfl
     |cons aC az ao=>intro C w;rw[World.setCells,ao];rfl
    refine⟨A.1,ax _ _ _,A.2.1,A.size,λk au aq=>?_⟩;exact A.block au (λ_ am e=>aq (by simp[<-am,e]))
  ·obtain⟨av,d,u,Z,v⟩:=run_append_arg_grows (P:=P) w t N e i Q g bytes S F ak V aa ac aj ⟨r,j,none⟩ n o B p.len (λJ l y=>by rw[W3];exact af J l y) I m c b M T O ab ad;obtain⟨z,E,rfl,L⟩:=J8.of_row Z;exact⟨z,E,d,u,L.mono ae,⟨v.os,v.tape,v.output,v.size,λk A _=>v.block k A (by simp)⟩,λa ha=>.inr (L.lt ha).1⟩
theorem J7 (w:World){L:Array Oper}{rest:List Oper}{l:Oper}{a:Act}{M:Exit->Act->World->Prop}
 (Y:l.guard=none)(G x:Operand)(t:TypeId)(ac:l.op=Op.call { callee:=Callee.builtin Builtin.append,args:=#[G,x],argTypes:=#[t,t] })
 (e:TypeId)(F:Value)(b bytes B:Nat)(Z:P.underlying t=some (.slice e))(V:(P.info? e).map (λi=>(i.zero,i.size,i.bytes))=some (some F,b,bytes))
 (S:F.cells.size=b)(ad:0<b)(s:Option Addr)(n o:Nat)(I:List Value)(ag:a.eval G=.slice s n o)(X:J8 w B b s n o I)
 (E:Addr)(m c:Nat)(r:List Value)(T:a.eval x=.slice (some E) m c)(aa:r.length=m*b)(N:∀J z,r[J]? =some z->w.cell? (E.add J)=some z)(j:∀z∈r,z.oneCell'=true)
 (W:0<m)(Q:n+m<=maxLen)(ab:(n+m)*bytes<=140737488355328)(ae:B<=w.heap.size)
 (h:∀g A d,J8 d B b g (n+m) A (I++r)->w.grownBy d (s.map Addr.block)->(∀a,g=some a->s=some a\/w.heap.size<=a.block)->wpList P L M rest (a.put l.dst (.slice g (n+m) A)) d):
 wpList P L M (l::rest) a w:=by
 refine wpList_plain Y λah U=>?_
 obtain⟨g,A,d,u,y,af,R⟩:=ZJ (P:=P) w t l.type e F b bytes B Z V S ad s n o I X E m c r aa N j W Q ab ae;unfold Oper.wp;simp[execOp,ac,resolve,invoke,builtin,ag,T,u,Result.andThen];exact U _ _ (h g A d y af R)
end
def JQ (s:Option Addr)(k o a:Nat):Option Addr:=if o=k then s else s.map (·.add (k*a))
theorem J8.cut {w:World}{z a:Nat}{s:Option Addr}{n o:Nat}{y:List Value}(h:J8 w z a s n o y)(k:Nat)(A:k<=n):
 J8 w z a (JQ s k o a) (n-k) (o-k) (y.drop (k*a)):=by
 have E:=h.le;refine⟨by rw[W4,h.len,Nat.sub_mul],O,by have:=h.max;omega,?_⟩;rcases h.at' with ⟨rfl,rfl⟩|⟨r,j,rfl,g,t,I,B⟩
 ·exact .inl ⟨by simp[JQ],O⟩
 ·by_cases e:o=k
  ·refine .inr ⟨r,j,by simp[JQ,e],g,t,λJ u b=>?_,λJ d=>by simp[e] at d⟩;have M:=h.len;rw[W5 (by rw[W4,M,<-Nat.sub_mul,show n-k=0 from O];omega)] at b;cases b
  ·refine .inr ⟨r,j+k*a,by simp[JQ,e,W3],g,t,λJ u b=>?_,λJ d=>?_⟩
   ·rw[W6] at b;rw[WU];exact I _ u b
   ·rw[WU];exact B _ (by rw[Nat.sub_mul] at d;have:k*a<=o*a:=WQ _ O;omega)
theorem J8.take {w:World}{t b:Nat}{s:Option Addr}{n o:Nat}{e:List Value}(h:J8 w t b s n o e)(k:Nat)(A:k<=n):
 J8 w t b s k o (e.take (k*b)):=by
 have F:=h.le;refine⟨by rw[WR,h.len];have:k*b<=n*b:=WQ _ A;omega,O,h.max,?_⟩;rcases h.at' with X|⟨g,y,rfl,E,z,I,B⟩
 ·exact .inl X
 ·refine .inr ⟨g,y,rfl,E,z,λj u d=>?_,B⟩;rw[WO] at d;split at d
  ·exact I j u d
  ·cases d
theorem J8.set {w:World}{F g:Nat}{r d n o:Nat}{E:List Value}(h:J8 w F g (some ⟨r,d,none⟩) n o E)(J:Nat)(M:J<n*g)(u:Value):
 J8 (w.setCell ⟨r,d+J,none⟩ u) F g (some ⟨r,d,none⟩) n o (E.set J u):=by
 have N:n*g<=o*g:=WQ _ h.le;refine⟨by rw[List.length_set];exact h.len,h.le,h.max,?_⟩;rcases h.at' with ⟨X,-⟩|⟨I,G,e,hb,L,hc,ht⟩
 ·cases X
 ·obtain⟨rfl,rfl⟩:r=I/\d=G:=by simpa using e
  refine .inr ⟨r,d,rfl,hb,by simpa using L,λk x j=>?_,λk hk=>?_⟩
  ·by_cases A:J=k
   ·subst A;rw[List.getElem?_set_self (by rw[h.len];exact M)] at j;obtain rfl:u=x:=by simpa using j
    obtain⟨u0,B⟩:=W7.1 (ht J O).1;exact W8 _ _ _ B
   ·rw[List.getElem?_set_ne A] at j;rw[W9 _ _ _ _ (by simp only[ne_eq,Addr.mk.injEq,not_and];omega)];exact hc k x j
  ·rw[Ya];refine⟨?_,(ht k hk).2⟩;by_cases A:J=k
   ·subst A;obtain⟨u0,B⟩:=W7.1 (ht J hk).1;rw[W8 _ _ _ B];rfl
   ·rw[W9 _ _ _ _ (by simp only[ne_eq,Addr.mk.injEq,not_and];omega)];exact(ht k hk).1
theorem B4 {P:Program}(t:TypeId)(s:Option Addr)(n o size:Nat)(a:P.underlying t=some (.slice (P.elem t)))(b:(P.info? (P.elem t)).map (·.size)=some size)(k:Nat)(i:Int)(F:i=(k:Int))(A:k<=n)(w:World):
 (Instr.slice t (.slice s n o) (some (.int .i64 i)) none none).run P w=.ok (.slice (JQ s k o size) (n-k) (o-k)) w:=by
 subst F;obtain⟨d,j,y⟩:=Yb.1 b;rw[run_slice_l w t s n o a .i64 (k:Int) (Yc _) (Yd.2 A)];exact JdY
theorem B5 {P:Program}(t:TypeId)(s:Option Addr)(n o:Nat)(size:Nat)(a:P.underlying t=some (.slice (P.elem t)))(b:(P.info? (P.elem t)).map (·.size)=some size)(k:Nat)(i:Int)(F:i=(k:Int))(A:k<=o)(w:World):
 (Instr.slice t (.slice s n o) none (some (.int .i64 i)) none).run P w=.ok (.slice s k o) w:=by
 subst F;obtain⟨d,j,y⟩:=Yb.1 b;rw[run_slice_h w t s n o a .i64 (k:Int) (Yc _) (Yd.2 A)];simp[sizeOf,typeInfo,j,y,sliced,Result.andThen];intro _;cases s<;>simp[Addr.add]
theorem WC (w:World)(p:Addr)(a:Value):w.grownBy (w.setCell p a) (some p.block):=
 ⟨rfl,rfl,rfl,by simp,λk _ b=>WK _ _ _ _ (λe=>b (by rw[e]))⟩
theorem WB (w:World)(a:Option Nat):w.grownBy w a:=⟨rfl,rfl,rfl,Je _,λ_ _ _=>rfl⟩
theorem X5 (w:World)(S:Array Value)(t:TypeId):∀J b,S.toList[J]? =some b->(w.alloc (.cells S t)).cell? ((⟨w.heap.size,0,none⟩:Addr).add J)=some b:=by
 intro J b d;rw[W3,WM,WN _ _ J S t (0,0) (WP w _)];simpa using d
end
section
open Go.ChangeShapes Go.WideShapes Go.ChangeAt Go.RowKit
theorem WA {a:Type}{enc:TypeId×Value->a}{j:Program}{w:World}{o:Nat}{l:Nat->Bool}{n:Bool}:
 ∀{g:List TypeId} {d:List Value} {e:List (DataW a)} {b:List MemPlace},DataW.TrodAll enc j w o l n g d e b->∀x∈b,x.block<w.heap.size
 |[],_,_,_,h=>by
  obtain⟨-,-,rfl⟩:=trodAll_nil h;intro x P;cases P
 |t::g,_,_,_,h=>by
  obtain⟨v,d,N,e,p,q,rfl,rfl,rfl,r,T⟩:=trodAll_cons h;intro x P;rcases Ye.1 P with P|P
  ·obtain⟨m,W⟩:=r;exact DataW.trod_lt m _ _ _ W x P
  ·exact WA T x P
theorem DD {r:Type}{enc:TypeId×Value->r}{a:Program}{d s:World}(M:laidOutB a=true):
 ∀{e:List TypeId} {n:List Value} {o:List (DataW r)} {l:List MemPlace},(∀t∈e,a.readableRec t=true/\t<a.types.size)->
 DataW.TrodAll enc a d 0 (λ_=>true) true e n o l->Ji d s->(∀x∈l,x.block<d.heap.size)->
 DataW.TrodAll enc a s 0 (λb=>decide (b<d.heap.size)) true e n o l
 |[],_,_,_,_,h,_,_=>by
  obtain⟨rfl,rfl,rfl⟩:=trodAll_nil h;exact trodAll_mk0
 |t::e,_,_,_,z,h,g,u=>by
  obtain⟨v,n,N,o,p,q,rfl,rfl,rfl,E,T⟩:=trodAll_cons h;obtain⟨j,y⟩:=z t (Yf ..)
  exact⟨p,q,Below.trod M j y E g λx P=>u x (List.mem_append_left _ P),
   DD M (λA B=>z A (Yg _ B)) T g λx P=>u x (List.mem_append_right _ P),rfl⟩
end
section
open Go.RowKit
structure JA (w:World)(oa:Option Addr)(n cap:Nat)(l:List Int):Prop where
 len:l.length=n
 le:n<=cap
 max:cap<=maxLen
 byte:∀v∈l,Jm v
 at':n=0\/∃g off,oa=some ⟨g,off,none⟩/\g<w.heap.size/\∀j,j<n->Jg w g (off+j) (Jq (l.getD j 0))
theorem JA.nil (w:World):JA w none 0 0 []:=⟨rfl,Je _,WG _,by simp,.inl rfl⟩
theorem JA.keep {w d:World}{s:Option Addr}{n o:Nat}{l:List Int}(h:JA w s n o l)(z:w.heap.size<=d.heap.size)
 (A:∀a,s=some a->a.block<w.heap.size->d.heap[a.block]? =w.heap[a.block]?):JA d s n o l:=by
 refine⟨h.len,h.le,h.max,h.byte,h.at'.imp id λ⟨r,b,e,g,I⟩=>⟨r,b,e,Jd g z,λJ t=>?_⟩⟩;have j:d.heap[r]? =w.heap[r]?:=A _ e g;rw[WH (w:=w) (a:=⟨r,b+J,none⟩) j];exact I J t
theorem JA.below {w d:World}{e:Option Addr}{n o:Nat}{l:List Int}(h:JA w e n o l)(b:Ji w d):JA d e n o l:=
 h.keep b.size λ_ _ j=>b.block _ j
theorem JA.belowB {w d:World}{U:Nat}{s:Option Addr}{n o:Nat}{l:List Int}(h:JA w s n o l)(g:Below U w d)(ha:∀a,s=some a->a.block<U):JA d s n o l:=
 h.keep g.size λa e _=>g.block _ (ha a e)
theorem JA.later {w:World}{s:Option Addr}{n o:Nat}{l:List Int}(h:JA w s n o l)(x:J2 w):JA x.world s n o l:=h.below x.below
theorem JA.alloc {w:World}{g:Option Addr}{n o:Nat}{l:List Int}(h:JA w g n o l)(d:Obj):JA (w.alloc d) g n o l:=h.below ((Jc _ _).alloc (Je _) d)
theorem JA.drew {w:World}{s:Option Addr}{n o:Nat}{l:List Int}(h:JA w s n o l):JA w.drew s n o l:=h.below (Jc _ _).drew
theorem JA.other {w:World}{s:Option Addr}{n o:Nat}{l:List Int}(h:JA w s n o l){p:Addr}(E:∀a,s=some a->a.block≠p.block)(b:Value):JA (w.setCell p b) s n o l:=
 h.keep (by simp) λa ha _=>WK _ _ _ _ (E a ha)
theorem JA.here {w:World}{s:Option Addr}{n o:Nat}{l:List Int}(h:JA w s n o l)(d:0<n):
 ∃r b,s=some ⟨r,b,none⟩/\r<w.heap.size/\∀J,J<n->Jg w r (b+J) (Jq (l.getD J 0)):=h.at'.resolve_left O
theorem JA.getD {w:World}{s:Option Addr}{n o:Nat}{l:List Int}(h:JA w s n o l)(J:Nat):0<=l.getD J 0/\l.getD J 0<256:=by
 rcases Yh J l.length with b|b
 ·rw[Yi,W2 b];exact h.byte _ (Yj b)
 ·rw[Yi,W5 b];simp
theorem HP (l:List Int)(j:Nat)(h:j<l.length):(l.map (Value.int .u8))[j]? =some (.int .u8 (l.getD j 0)):=by
 rw[Yk,W2 h];simp[Yi,W2 h]
theorem J8.reads {w:World}{base:Nat}{b:Option Addr}{n o:Nat}{l:List Int}(h:J8 w base 1 b n o (l.map (.int .u8)))(g:∀v∈l,Jm v):JA w b n o l:=by
 have M:l.length=n:=by have:=h.len;simpa using this
 refine⟨M,h.le,h.max,g,?_⟩;rcases h.at' with ⟨-,I⟩|⟨r,d,e,-,j,I,-⟩
 ·exact .inl (by have:=h.le;omega)
 ·exact .inr ⟨r,d,e,j,λJ t=>I J _ (HP l J O)⟩
theorem JA.cut {w:World}{s:Option Addr}{n o:Nat}{l:List Int}(h:JA w s n o l)(k:Nat)(A:k<=n):JA w (JQ s k o 1) (n-k) (o-k) (l.drop k):=by
 have g:=h.le;refine⟨by rw[W4,h.len],O,by have:=h.max;omega,λv a=>h.byte v (Yl a),?_⟩;rcases h.at' with X|⟨r,b,rfl,d,I⟩
 ·exact .inl O
 ·by_cases e:o=k
  ·exact .inl O
  ·refine .inr ⟨r,b+k,by simp[JQ,e,W3],d,λJ j=>?_⟩;rw[WU,I _ O];simp[Yi,W6]
theorem JA.take {w:World}{s:Option Addr}{n o:Nat}{l:List Int}(h:JA w s n o l)(k:Nat)(A:k<=n):JA w s k o (l.take k):=by
 refine⟨by rw[WR,h.len];omega,by have:=h.le;omega,h.max,λv d=>h.byte v (Ym d),?_⟩;rcases h.at' with X|⟨g,b,e,t,I⟩
 ·exact .inl O
 ·refine .inr ⟨g,b,e,t,λj y=>?_⟩;rw[I j O];simp[Yi,WO,y]
theorem QB {P:Program}(t:TypeId)(s:Option Addr)(n o size:Nat)(a:P.underlying t=some (.slice (P.elem t)))(d:(P.info? (P.elem t)).map (·.size)=some size)(k m:Nat)(i J:Int)(F:i=(k:Int))(b:J=(m:Int))(A:k<=m)(W:m<=o)(w:World):
 (Instr.slice t (.slice s n o) (some (.int .i64 i)) (some (.int .i64 J)) none).run P w=.ok (.slice (JQ s k o size) (m-k) (o-k)) w:=by
 subst F b;obtain⟨e,j,y⟩:=Yb.1 d;rw[run_slice_lh w t s n o a .i64 .i64 (k:Int) (m:Int) (Yc _) (Yd.2 A) (Yd.2 W)];exact JdY
theorem BS (l:List Int)(j:Nat)(h:j<l.length):l.getD j 0=l[j]:=by simp[Yi,W2 h]
section
variable {P:Program}
theorem Qm (b e:TypeId)(z:P.underlying b=some (.slice e))(d:P.underlying e=some (.int .u8)){w:World}{s:Option Addr}{n o:Nat}{l:List Int}(h:JA w s n o l)
 (a:TypeId)(L:P.underlying a=some .string):(convert b a (.slice s n o)).run P w=.ok (.string (strOfNums l)) w:=by
 rcases h.at' with X|⟨r,g,rfl,-,I⟩
 ·subst X;have M:l=[]:=WL h.len;subst M;rw[run_convert_bytes_string w b a e _ 0 o z d L];cases s<;>simp[Conv.bytesToString,loadCells,strOfNums]
  all_goals rfl
 ·exact run_convert_bytes_arg w b e z d r g n o l h.len I a L
theorem BT (w:World)(t j e:TypeId)(size:Nat)(b:P.underlying t=some (.slice e))(d:(P.info? e).map (·.size)=some size)
 (s:Option Addr)(n o:Nat)(g:n<=o)(a:Option Addr)(c:Nat):
 (Builtin.append_ #[t,t] j #[.slice s n o,.slice a 0 c]).run P w=.ok (.slice s n o) w:=by
 obtain⟨i,F,-⟩:=Yb.1 d;cases s<;>cases a<;>simp[Builtin.append_,Yn b,sizeOf,typeInfo,F,Builtin.lenOf,Builtin.firstCells,g,loadCells,loadCellsFrom,storeCells]
theorem XV (w:World)(t B e:TypeId)(g:Nat)(E:P.underlying t=some (.slice e))(C:(P.info? e).map (λi=>(i.zero,i.size,i.bytes))=some (some (.int .u8 0),1,1))
 (s:Option Addr)(n o:Nat)(A:List Value)(y:J8 w g 1 s n o A)
 (z:Option Addr)(m c:Nat)(l:List Int)(u:JA w z m c l)(U:n+m<=140737488355328)(S:g<=w.heap.size):
 ∃j G d,(Builtin.append_ #[t,t] B #[.slice s n o,.slice z m c]).run P w=.ok (.slice j (n+m) G) d/\J8 d g 1 j (n+m) G (A++l.map (.int .u8))/\
  w.grownBy d (s.map Addr.block)/\(∀a,j=some a->s=some a\/w.heap.size<=a.block):=by
 rcases Yo m with X|X
 ·subst X;have M:l=[]:=WL u.len;subst M;obtain⟨i,F,-,L,-⟩:=WT C;refine⟨s,o,w,BT w t B e 1 E (by rw[F,<-L];rfl) s n o y.le z c,by simpa using y,WB w _,λa ha=>.inl ha⟩
 ·obtain⟨r,Q,rfl,V,I⟩:=u.here X;have T:=u.len;refine ZJ w t B e (Jq 0) 1 1 g E C rfl O s n o A y ⟨r,Q,none⟩ m c (l.map (.int .u8)) (by simpa using T) (λJ N b=>?_) (λN b=>?_) X (by unfold maxLen;omega) O S
  ·have R:J<l.length:=by simpa using(W0.1 b).1
   rw[HP l J R] at b;obtain rfl:=Yp b;rw[W3];exact I J O
  ·obtain⟨v,-,rfl⟩:=Yq.1 b;rfl
theorem JI (w:World){A:Array Oper}{rest:List Oper}{C:Oper}{a:Act}{B:Exit->Act->World->Prop}
 (N:C.guard=none)(s x:Operand)(t:TypeId)(R:C.op=Op.call { callee:=Callee.builtin Builtin.append,args:=#[s,x],argTypes:=#[t,t] })
 (e:TypeId)(base:Nat)(Q:P.underlying t=some (.slice e))(L:(P.info? e).map (λi=>(i.zero,i.size,i.bytes))=some (some (.int .u8 0),1,1))
 (g:Option Addr)(n o:Nat)(v:List Value)(z:a.eval s=.slice g n o)(M:J8 w base 1 g n o v)
 (r:Option Addr)(m c:Nat)(l:List Int)(G:a.eval x=.slice r m c)(u:JA w r m c l)(E:n+m<=140737488355328)(S:base<=w.heap.size)
 (h:∀b j d,J8 d base 1 b (n+m) j (v++l.map (.int .u8))->w.grownBy d (g.map Addr.block)->(∀a,b=some a->g=some a\/w.heap.size<=a.block)->wpList P A B rest (a.put C.dst (.slice b (n+m) j)) d):
 wpList P A B (C::rest) a w:=by
 refine wpList_plain N λT J=>?_
 obtain⟨b,j,d,I,y,Y,F⟩:=XV (P:=P) w t C.type e base Q L g n o v M r m c l u E S;unfold Oper.wp;simp[execOp,R,resolve,invoke,builtin,z,G,I,Result.andThen];exact J _ _ (h b j d y Y F)
end
theorem Wv {U base:Nat}{b w d:World}{size n o:Nat}{e:Option Addr}{r:List Value}(h:Below U b w)(j:J8 w base size e n o r)(u:U<=base)(l:w.grownBy d (e.map Addr.block))(t:U<=w.heap.size):Below U b d:=
 Yr h l t λk A=>by
  obtain⟨a,y,g⟩:=Yb.1 A;rw[<-g];exact WJ u (j.lt y).1
def Hi (l:List Int):Int:=l.foldl (λv x=>v*256+x) 0
theorem EB (l:List Int)(x:Int):Hi (l++[x])=Hi l*256+x:=by simp[Hi]
theorem NX (l:List Int)(h:∀v∈l,Jm v):0<=Hi l/\Hi l<256^l.length:=by
 obtain⟨m,W⟩:∃m,m=l.reverse:=⟨_,rfl⟩
 obtain rfl:l=m.reverse:=by rw[W,List.reverse_reverse]
 clear W;induction m with
 |nil=>simp[Hi]
 |cons x m b=>
  rw[List.reverse_cons,EB,WV,Ys,Int.pow_succ];obtain⟨j,y⟩:=b λv a=>h v (by simp at a|-;exact .inl a)
  obtain⟨Y,d⟩:=h x (by simp);generalize (256:Int)^m.reverse.length=p at*;omega
theorem Cx (l:List Int)(k:Nat)(h:k<l.length):l.take (k+1)=l.take k++[l.getD k 0]:=by
 rw[Yt h,BS l k h]
theorem PU (k:Nat)(h:k<=7):(256:Int)^k<=72057594037927936:=by
 have:k=0\/k=1\/k=2\/k=3\/k=4\/k=5\/k=6\/k=7:=O;rcases this with rfl|rfl|rfl|rfl|rfl|rfl|rfl|rfl<;>decide
def J5 (w:World)(l:List Int):Ending->World->Prop:=λe d=>
 ∃s o,e=.returned (.slice s l.length o)/\J8 d w.heap.size 1 s l.length o (l.map (.int .u8))/\Ji w d
theorem J5.mk {w V:World}{l:List Int}{n:Nat}{b:Option Addr}{o:Nat}(d:J8 V w.heap.size 1 b n o (l.map (.int .u8)))(e:n=l.length)(t:Ji w V):J5 w l (.returned (.slice b n o)) V:=by
 subst e;exact⟨_,_,rfl,d,t⟩
end
section
def foldN (n:Nat):Nat:=if n=0 then 0 else (n-1)%65535+1
theorem Cy (n:Nat):foldN n<=65535:=by
 unfold foldN;split
 ·omega
 ·have:=Yu (n-1) (show 0<65535 from O);omega
theorem F4 {n:Nat}(h:n<=65535):foldN n=n:=by
 unfold foldN;split
 ·omega
 ·rw[Yv O];omega
theorem HQ (n:Nat):foldN (n/65536+n%65536)=foldN n:=by
 unfold foldN;by_cases h:n=0
 ·subst h;rfl
 ·rw[Yw h,Yw O];have e:n-1=(n/65536+n%65536-1)+65535*(n/65536):=O;rw[e,Nat.add_mul_mod_self_left]
theorem PV (a v:Nat):foldN (foldN a+v)=foldN (a+v):=by
 by_cases h:a=0
 ·subst h;simp[foldN]
 ·have e:foldN a=(a-1)%65535+1:=by unfold foldN;rw[Yw h]
  rw[e];unfold foldN;rw[Yw O,Yw O,show(a-1)%65535+1+v-1=(a-1)%65535+v from O,show a+v-1=(a-1)+v from O,Nat.mod_add_mod]
def BU:Bool->List Int->Nat
 |_,[]=>0
 |true,x::l=>x.toNat*256+BU false l
 |false,x::l=>x.toNat+BU true l
def MD:Bool->List Int->Bool
 |p,[]=>p
 |p,_::l=>MD (!p) l
theorem Dk:∀(p:Bool) (l r:List Int),BU p (l++r)=BU p l+BU (MD p l) r
 |p,[],r=>by cases p<;>simp[BU,MD]
 |true,x::l,r=>by rw[Yx,BU,Dk,BU,MD,Bool.not_true];omega
 |false,x::l,r=>by rw[Yx,BU,Dk,BU,MD,Bool.not_false];omega
theorem KT:∀(p:Bool) (l:List Int),MD p l=(p==decide (l.length%2=0))
 |p,[]=>by cases p<;>rfl
 |p,x::l=>by
  rw[MD,KT];by_cases h:l.length%2=0
  ·have y:¬(l.length+1)%2=0:=O;simp only[Yy,Yz h,YA y];cases p<;>rfl
  ·have y:(l.length+1)%2=0:=O;simp only[Yy,YA h,Yz y];cases p<;>rfl
def sumOf (l:List Int):Nat:=65535-foldN (BU true l)
def XW (l:List Int):Bool:=foldN (BU true l)==65535||foldN (BU true l)==0
theorem DE (l:List Int):sumOf l<=65535:=by unfold sumOf;omega
theorem SF (l:List Int):(sumOf l==0||sumOf l==65535)=XW l:=by
 unfold sumOf XW;have:=Cy (BU true l);generalize foldN (BU true l)=n at*;by_cases j:n=65535
 ·subst j;rfl
 ·by_cases y:n=0
  ·subst y;rfl
  ·have b:¬65535-n=0:=O;have a:¬65535-n=65535:=O;rw[YB j,YB y,YB b,YB a]
def XE:List Int->List Nat
 |[]=>[]
 |[x]=>[x.toNat*256]
 |x::y::l=>(x.toNat*256+y.toNat)::XE l
theorem HR:∀l:List Int,(XE l).sum=BU true l
 |[]=>rfl
 |[x]=>by simp[XE,BU]
 |x::y::l=>by rw[XE,List.sum_cons,HR l,BU,BU];omega
abbrev JF (l:List Int):Prop:=∀v∈l,Jm v
theorem QC {l:List Int}(h:JF l)(i:Nat):0<=l.getD i 0/\l.getD i 0<256:=by
 rw[Yi];cases hx:l[i]? with
 |none=>exact⟨YC 0,(show(0:Int)<256 from D)⟩
 |some x=>exact h x (YD hx)
theorem Jx {a b:List Int}(ha:JF a)(g:JF b):JF (a++b):=λv d=>(Ye.1 d).elim (ha v) (g v)
theorem QL {l:List Int}(h:JF l)(n:Nat):JF (l.take n):=λv b=>h v (Ym b)
theorem Qv {l:List Int}(h:JF l)(n:Nat):JF (l.drop n):=λv b=>h v (Yl b)
def w2 (l:List Int)(i:Nat):Int:=l.getD i 0*256+l.getD (i+1) 0
def w4 (l:List Int)(i:Nat):Int:=w2 l i*65536+w2 l (i+2)
theorem Xw {l:List Int}(h:JF l)(i:Nat):0<=w2 l i/\w2 l i<65536:=by
 have j:=QC h i;have y:=QC h (i+1);unfold w2;omega
theorem OD {l:List Int}(h:JF l)(i:Nat):0<=w4 l i/\w4 l i<4294967296:=by
 have j:=Xw h i;have y:=Xw h (i+2);unfold w4;omega
def be2 (v:Int):List Int:=[v/256%256,v%256]
theorem JN (v:Int):JF (be2 v):=by
 intro x a;simp only[be2,YE,YF,YG] at a;omega
def ipHl (l:List Int):Nat:=(l.getD 0 0%16).toNat*4
def QJ (l:List Int):Int:=
 if l.length<20 then 10 else if l.getD 0 0/16≠4 then 50 else if ipHl l<20 then 51 else if l.length<ipHl l then 10
 else if 32768<=w2 l 6\/w2 l 2<ipHl l then 51 else if XW (l.take (ipHl l))=false then 52 else 0
def JR (l:List Int):Int:=if QJ l≠0 then QJ l else if (l.length:Int)<w2 l 2 then 10 else 0
def AZ (l:List Int):List Int:=(l.drop (ipHl l)).take ((w2 l 2).toNat-ipHl l)
structure IpH where
 tos:Int
 total:Int
 id:Int
 df:Bool
 mf:Bool
 frag:Int
 ttl:Int
 proto:Int
 src:List Int
 dst:List Int
 opt:List Int
def Bw (h:IpH):Int:=(if h.df then 16384 else 0)+(if h.mf then 8192 else 0)+h.frag
def Qc (h:IpH)(a:Int):List Int:=
 [64+((20+h.opt.length:Nat):Int)/4,h.tos]++be2 h.total++be2 h.id++be2 (Bw h)++[h.ttl,h.proto]++be2 a++(h.src++h.dst++h.opt)
def Q7 (h:IpH):List Int:=Qc h (sumOf (Qc h 0))
def QF (h:IpH):Bool:=decide (h.frag<=8191)&&(decide (h.opt.length%4=0)&&(decide (h.opt.length<=40)&&decide (20+(h.opt.length:Int)<=h.total)))
def Zm (l:List Int):Int:=if l.length<40 then 10 else if w4 l 0/268435456≠6 then 50 else 0
def atB (l:List Int)(i:Nat):Nat->Int:=λk=>l.getD (i+k) 0
def Qe (k:Int):Bool:=k==0||k==43||k==44||k==60
def ZH (d:List Int):Int:=if d.length<2 then 0 else w2 d 0
def Xa (k:Int)(d:List Int):Bool:=if k=44 then decide (d.length=6)&&decide (ZH d/2%4=0) else Qe k&&(decide (d.length%8=6)&&decide (d.length<=2046))
def At (k:Int)(d:List Int):Bool:=decide (k=44)&&decide (0<ZH d/8)
abbrev AB:=List (Int×List Int)
inductive Vt
 |err (e:Int)
 |ok (k:Int)(d:List Int)(next:Int)(n:Nat)
def ZU (b:AB)(p:Int)(l:List Int):Vt:=
 if b.length=16\/(p=0/\0<b.length) then .err 60
 else if l.length<2 then .err 10
 else
  let n:Nat:=if p=44 then 8 else 8*((l.getD 1 0).toNat+1)
  if l.length<n then .err 10
  else
   let N:=(l.take n).drop 2
   if p=44/\(l.getD 1 0≠0\/Xa 44 N=false) then .err 60 else .ok p N (l.getD 0 0) n
inductive PW
 |err (e:Int)
 |done (xs:AB)(p:Int)(at_:Nat)
def By:Nat->AB->Int->Nat->List Int->PW
 |0,xs,p,i,l=>.done xs p i
 |f+1,xs,p,i,l=>
  if Qe p then
   match ZU xs p (l.drop i) with
   | .err e=>.err e
   | .ok k d next n=>if At k d then .done (xs++[(k,d)]) next (i+n) else By f (xs++[(k,d)]) next (i+n) l
  else .done xs p i
structure MC (xs:AB):Prop where
 le:xs.length<=16
 right:∀x∈xs,Xa x.1 x.2=true
 hop:∀i,0<i->∀x,xs[i]? =some x->x.1≠0
 early:∀i,i+1<xs.length->∀x,xs[i]? =some x->At x.1 x.2=false
 byte:∀x∈xs,0<=x.1/\x.1<256/\JF x.2
def QQ (b:AB):Bool:=match b.getLast? with|some x=>At x.1 x.2|none=>false
theorem MC.nil:MC []:=⟨by simp,by simp,by simp,by simp,by simp⟩
theorem Ix {b:AB}{p:Int}{l:List Int}{k:Int}{N:List Int}{next:Int}{n:Nat}(h:ZU b p l=.ok k N next n):
 b.length≠16/\¬(p=0/\0<b.length)/\2<=l.length/\n=(if p=44 then 8 else 8*((l.getD 1 0).toNat+1))/\n<=l.length/\k=p/\N=(l.take n).drop 2/\next=l.getD 0 0/\(p=44->Xa 44 N=true):=by
 unfold ZU at h;by_cases j:b.length=16\/(p=0/\0<b.length)
 ·rw[YH j] at h;cases h
 rw[Yw j] at h;by_cases y:l.length<2
 ·rw[YH y] at h;cases h
 rw[Yw y] at h;simp only at h;generalize B:(if p=44 then 8 else 8*((l.getD 1 0).toNat+1))=m at h;by_cases Y:l.length<m
 ·rw[YH Y] at h;cases h
 rw[Yw Y] at h;by_cases d:p=44/\(l.getD 1 0≠0\/Xa 44 ((l.take m).drop 2)=false)
 ·rw[YH d] at h;cases h
 rw[Yw d] at h;injection h with o e g s;subst o e g s;refine⟨λh=>j (.inl h),λh=>j (.inr h),O,rfl,O,rfl,rfl,rfl,λE=>?_⟩;cases hx:Xa 44 ((l.take m).drop 2) with
 |true=>rfl
 |false=>exact absurd ⟨E,.inr hx⟩ d
theorem ME {b:AB}{p:Int}{l:List Int}{k:Int}{N:List Int}{next:Int}{n:Nat}(M:JF l)(g:Qe p=true)(h:ZU b p l=.ok k N next n):Xa k N=true:=by
 obtain⟨-,-,y,B,j,rfl,rfl,-,d⟩:=Ix h;by_cases a:k=44
 ·subst a;exact d rfl
 ·have:=QC M 1;rw[Yw a] at B;have e:((l.take n).drop 2).length=n-2:=by rw[W4,WR];omega
  unfold Xa;rw[Yw a,g,e,Yz (show(n-2)%8=6 from O),Yz (show n-2<=2046 from O)];rfl
theorem MC.snoc {d:AB}(h:MC d)(M:QQ d=false){p:Int}{l:List Int}{k:Int}{N:List Int}{next:Int}{n:Nat}(g:JF l)(E:Qe p=true)(o:Jm p)(s:ZU d p l=.ok k N next n):MC (d++[(k,N)]):=by
 have u:=ME g E s;obtain⟨v,X,y,B,z,rfl,rfl,-,C⟩:=Ix s;have G:=h.le;refine⟨by rw[WV,Ys];omega,λx b=>?_,λi F x b=>?_,λi F x b=>?_,λx b=>?_⟩
 ·rcases Ye.1 b with b|b
  ·exact h.right x b
  ·obtain rfl:=YI.1 b;exact u
 ·rcases Yh i d.length with j|t
  ·rw[WX j] at b;exact h.hop i F x b
  ·rw[WZ t] at b
   obtain⟨I,rfl⟩:i-d.length=0/\x=(k,(l.take n).drop 2):=by
    rcases Yo (i-d.length) with e|e
    ·rw[e] at b;exact⟨e,by simpa using b.symm⟩
    ·rw[W5 (by simp;omega)] at b;cases b
   intro A;exact X ⟨A,O⟩
 ·rw[WV,Ys] at F;rw[WX O] at b;by_cases j:i+1<d.length
  ·exact h.early i j x b
  ·have:d.getLast? =some x:=by rw[List.getLast?_eq_getElem?,show d.length-1=i from O];exact b
   unfold QQ at M;rw[this] at M;exact M
 ·rcases Ye.1 b with b|b
  ·exact h.byte x b
  ·obtain rfl:=YI.1 b;exact⟨o.1,o.2,Qv (QL g _) _⟩
theorem Hj (b:AB)(k:Int)(N:List Int):QQ (b++[(k,N)])=At k N:=by
 unfold QQ;rw[List.getLast?_append];rfl
def F5:AB->Option (List Int)
 |[]=>none
 |x::a=>if x.1=44 then some x.2 else F5 a
def A8 (a:AB):Int:=match F5 a with|some N=>ZH N/8|none=>0
def Aa (a:AB):Bool:=match F5 a with|some N=>(ZH N%2==1)|none=>false
end
section
open Go.RowKit
section
variable {P:Program} {ops:Array Oper} {md:Region.Mode} {C:World->Prop}
def F6 (P:Program)(md:Region.Mode)(ops:Array Oper)(C:World->Prop)(n:Nat)(L:Array Bool->Act->Prop):Nat->Array Bool->Act->Prop
 |0,listed,a=>L listed a
 |f+1,listed,a=>Region.ready md ops listed≠[]/\∀i∈Region.ready md ops listed,i<n/\qOp P ops C i (F6 P md ops C n L f (listed.setIfInBounds i true)) a
theorem C5 {n g:Nat}{b:Array Bool->Act->Prop}{Q':Exit->Act->World->Prop}(e:∀listed a w,C w->b listed a->wpAny P md ops Q' g listed a w):
 ∀(f:Nat) (listed:Array Bool) (a:Act) (w:World),C w->F6 P md ops C n b f listed a->wpAny P md ops Q' (f+g) listed a w
 |0,listed,a,w,R,h=>by rw[WM];exact e _ _ _ R h
 |f+1,listed,a,w,R,h=>by
  rw[show f+1+g=(f+g)+1 from O];exact⟨λX=>absurd X h.1,λi F=>YJ R (λj d l o=>C5 e f _ j d l o) (h.2 i F).2⟩
theorem Iy {n i:Nat}{r:Oper}{v:Value}{G:Array Bool->Act->Prop}(F:ops[i]? =some r)(M:∀(J:Nat) (R:Oper) S b,ops[J]? =some R->R.op≠ .select S b)
 (z:Region.sinkB md ops n=true)(I:Region.chainB md ops n=true)(B:n<ops.size)(Q:i<n)
 (ah:∀d a,G d a->∀J∈Region.ready md ops d,n<=J):
 ∀(f:Nat) (d:Array Bool) (a:Act),HeadInv md ops n d->
  (∀J l,ops[J]? =some l->J≠i->d.getD J true=false->(∀e∈l.after,Region.binds md e=true->e.on≠i)->r.apart ops l=true)->
  i∈Region.ready md ops d->YieldsIn P ops C r v a->
  F6 P md ops C n G f (d.setIfInBounds i true) (a.put r.dst v)->F6 P md ops C n G (f+1) d a:=by
 intro f;induction f with
 |zero=>
  intro d a t _ u E s;have o:=(YK.1 u).1;refine⟨λh=>(by rw[h] at u;cases u),λJ p=>?_⟩
  have A:J<n:=by
   rcases Yh J n with h|h
   ·exact h
   ·exact absurd p (tail_waits z I B t _ i rfl Q o J h)
  refine⟨A,?_⟩;by_cases g:J=i
  ·subst g;exact E.qOp F s
  ·have:=ah _ _ s J (YL p g);omega
 |succ f ad=>
  intro d a t N u E s;have o:=(YK.1 u).1;refine⟨λh=>(by rw[h] at u;cases u),λJ p=>?_⟩
  have A:J<n:=by
   rcases Yh J n with h|h
   ·exact h
   ·exact absurd p (tail_waits z I B t _ i rfl Q o J h)
  refine⟨A,?_⟩;by_cases g:J=i
  ·subst g;exact E.qOp F s
  ·have j:=(s.2 J (YL p g)).2;obtain⟨T,l,L,ae⟩:=YK.1 p
   have Z:∀e∈l.after,Region.binds md e=true->e.on≠i:=λe af ab X=>by
    have j:=ae e af ab;rw[X,getD_both o] at j;cases j
   have y:=qOp_put L (N J l L g T Z) (λS b=>M i r S b F) (λS b=>M J l S b L) E j
   have ac:∀k ok,ops[k]? =some ok->k≠i->(d.setIfInBounds J true).getD k true=false->
    (∀e∈ok.after,Region.binds md e=true->e.on≠i)->r.apart ops ok=true:=λk ok aa ag o W=>by
    refine N k ok aa ag ?_ W;by_cases U:J=k
    ·subst U;exact T
    ·rw[YM true U] at o;exact o
   refine qOp_mono (λV Y=>ad (d.setIfInBounds J true) V (t.set p A) ac (YL u (Ne.symm g)) Y.1 ?_) y;rw[YN _ _ g];exact Y.2
theorem F7 {n g:Nat}{e:Act->Prop}(j:Region.noSelect ops=true)(z:Region.sinkB md ops n=true)(I:Region.chainB md ops n=true)(B:n<ops.size):
 ∀(l:List Oper) (k:Nat) (b:Array Bool) (a:Act),(∀J,J<l.length->l[J]? =ops[k+J]?)->k+l.length=n->HeadInv md ops n b->
 Region.lexHead md ops g l.length k b=true->wpQuiet P ops C e l a->
 F6 P md ops C n (λt p=>Region.seqB md ops g n t=true/\e p) l.length b a
 |[],k,b,a,_,A,_,d,h=>by
  obtain rfl:k=n:=by simpa using A
  exact⟨by simpa[Region.lexHead] using d,h⟩
 |o::l,k,b,a,M,A,y,d,h=>by
  have X:ops[k]? =some o:=by simpa using(M 0 (by simp)).symm
  simp only[Yy,Region.lexHead,YO] at d;obtain⟨⟨u,N⟩,Q⟩:=d;have s:k<n:=by simp only[Yy] at A;omega
  have r:k∈Region.ready md ops b:=by simpa using u
  have E:qOp P ops C k (wpQuiet P ops C e l) a:=by unfold qOp;simp only[X];exact h
  obtain⟨v,G,F⟩:=yieldsIn_of_qOp X E
  exact Iy X (YP j) z I B s (λt p L=>seqB_ready L.1) l.length b a y (YQ X N) r G
   (F7 j z I B l (k+1) _ _ (λJ R=>by have:=M (J+1) (by simp;omega);simpa[WU,YR 1 J] using this) (by simp only[Yy] at A;omega) (y.set r s) Q F)
theorem F8 {id:Nat}{e:Exit->Act->World->Prop}{a:Act}{w:World}{l:List Oper}(n:Nat)(W:P.follows .mixedOrders=true)(s:Region.lexTailB .any l.toArray n=true)
 (F:C { w with drawn:=w.drawn+1 })
 (h:wpQuiet P l.toArray C (λj=>∀d,C d->wpList P l.toArray e (l.drop n) j d) (l.take n) a):(Code.region id l.toArray true).wp P e a w:=by
 simp only[Region.lexTailB,YO,YS] at s;obtain⟨⟨⟨⟨v,B⟩,z⟩,I⟩,A⟩:=s;have Q:n<l.length:=by simpa using B
 have b:(l.take n).length=n:=by simp;omega
 have o:(l.drop n).length=l.toArray.size-n:=by simp
 have E:HeadInv .any l.toArray n (Array.replicate l.toArray.size false):=
  ⟨by simp,λJ R _ M=>(by rw[getD_replicate_false] at M;cases M),λt _ G=>getD_in (by simpa using G) (getD_replicate_false _ _)⟩
 have y:=F7 (md:=.any) (g:=l.toArray.size-n) v z I B (l.take n) 0 _ a (λJ p=>by
  have N:J<n:=by rw[b] at p;exact p
  simp[N]) (by simpa using b) E (by rw[b];exact A) h
 refine YT W ?_
 have:=C5 (Q':=e) (g:=l.toArray.size-n) (λu j d L r=>by
  have:=wpAny_of_seq (md:=.any) (Q':=e) (l.drop n) n u j d (λJ=>by simp[W6]) (by rw[o];exact r.1) (r.2 d L);rwa [o] at this) _ _ _ _ F y
 rw[b,show n+(l.toArray.size-n)=l.toArray.size from O] at this;exact this
theorem Xe {id:Nat}{e:Exit->Act->World->Prop}{a:Act}{w:World}{l:List Oper}(n:Nat)(W:P.follows .mixedOrders=true)(j:Region.lexTailB .any l.toArray n=true)
 (h:wpQuiet P l.toArray (λd=>∃x:J2 w,d=x.world) (λb=>∀x:J2 w,wpList P l.toArray e (l.drop n) b x.world) (l.take n) a):(Code.region id l.toArray true).wp P e a w:=by
 refine F8 (C:=λd=>∃x:J2 w,d=x.world) n W j ⟨⟨_,(Jc _ _).drew⟩,rfl⟩ ?_
 have:(λb=>∀x:J2 w,wpList P l.toArray e (l.drop n) b x.world)=(λb=>∀d,(∃x:J2 w,d=x.world)->wpList P l.toArray e (l.drop n) b d):=by
  funext b;exact propext ⟨λh d ⟨x,g⟩=>g▸h x,λh x=>h _ ⟨x,rfl⟩⟩
 rw[<-this];exact h
end
end
section
open Go.RowKit
def Jv (w:World)(b d n:Nat):Array Value:=match w.heap[b]? with
 |some (.cells cs _ _)=>cs.extract d (d+n)
 |_=>#[]
def JE (w:World)(b n:Nat):Bool:=match w.heap[b]? with
 |some (.cells cs _ d)=>cs.size==n&&d==(0,0)
 |_=>false
def Iz (w:World)(n:Nat):Value->Array Value
 | .pointer (some ⟨b,a,none⟩)=>Jv w b a n
 |_=>#[]
def MF (w:World)(n:Nat):Value->Bool
 | .pointer (some ⟨b,0,none⟩)=>JE w b n
 |_=>false
def IA:Value->Nat
 | .pointer (some ⟨b,_,_⟩)=>b
 |_=>0
def IB:Value->Array Value
 | .agg cs=>cs
 |_=>#[]
def A9 (n:Nat):Value->Bool
 | .agg cs=>cs.size==n&&cs.all (·.oneCell')
 |_=>false
theorem MG (w:World)(n b a:Nat):Iz w n (.pointer (some ⟨b,a,none⟩))=Jv w b a n:=rfl
theorem MH (w:World)(n b:Nat):MF w n (Jj b)=JE w b n:=rfl
theorem KU (a:Addr):IA (.pointer (some a))=a.block:=rfl
theorem KV (S:Array Value):IB (.agg S)=S:=rfl
theorem QR (n:Nat)(S:Array Value):A9 n (.agg S)=(S.size==n&&S.all (·.oneCell')):=rfl
attribute [go_sem] MG MH KU KV QR
theorem OE (w:World)(b a n:Nat)(S:Array Value)(t:TypeId)(d:Nat×Nat)(h:b=w.heap.size):Jv (w.alloc (.cells S t d)) b a n=S.extract a (a+n):=by
 subst h;unfold Jv;rw[WP]
theorem HS (w:World)(b a n:Nat)(C:Obj)(h:b<w.heap.size):Jv (w.alloc C) b a n=Jv w b a n:=by
 unfold Jv;rw[YU _ _ h]
theorem MI (w:World)(b a n:Nat):Jv w.drew b a n=Jv w b a n:=rfl
theorem J0 {U:Nat}{w d:World}(g:Below U w d)(b e n:Nat)(h:b<U):Jv d b e n=Jv w b e n:=by
 unfold Jv;rw[g.block _ h]
theorem J2.part {w:World}(x:J2 w)(b d n:Nat)(h:b<w.heap.size):Jv x.world b d n=Jv w b d n:=J0 x.below b d n h
theorem JG (w:World)(b d n:Nat)(S:Array Value)(t:TypeId)(e:Nat×Nat)(h:w.heap[b]? =some (.cells S t e)):Jv w b d n=S.extract d (d+n):=by
 unfold Jv;rw[h]
attribute [go_sem] OE HS MI J2.part
theorem MJ (w:World)(b n:Nat)(S:Array Value)(t:TypeId)(h:b=w.heap.size):JE (w.alloc (.cells S t)) b n=(S.size==n):=by
 subst h;unfold JE;rw[WP];simp
theorem MK (w:World)(b n:Nat)(o:Obj)(h:b<w.heap.size):JE (w.alloc o) b n=JE w b n:=by
 unfold JE;rw[YU _ _ h]
theorem KW (w:World)(b n:Nat):JE w.drew b n=JE w b n:=rfl
theorem Jw (w:World)(b n:Nat)(cs:Array Value)(t:TypeId)(h:Jh w b cs t):JE w b n=(cs.size==n):=by
 unfold JE;rw[h];simp
theorem F9 (w:World)(b n:Nat)(a:Addr)(v:Value):JE (w.setCell a v) b n=JE w b n:=by
 by_cases h:b=a.block
 ·subst h;unfold JE World.setCell;simp only[YV,YW];cases w.heap[a.block]? with
  |none=>rfl
  |some o=>
   cases o<;>simp<;>(try cases a.spot)<;>simp
 ·unfold JE;rw[YX _ _ _ _ h]
attribute [go_sem] MJ MK KW F9
theorem OF (w:World)(b:Nat)(c a:Array Value)(t:TypeId)(h:b=w.heap.size):(w.alloc (.cells c t)).setRow b a=w.alloc (.cells a t):=by
 subst h;simp only[World.setRow,World.alloc];congr 1
 apply YY;intro i;rw[YV];by_cases h:w.heap.size=i
 ·subst h;simp
 ·have d:¬i=w.heap.size:=λe=>h e.symm
  simp[h,d,YZ]
theorem OG (w:World)(b:Nat)(C:Obj)(a:Array Value)(h:b<w.heap.size):(w.alloc C).setRow b a=(w.setRow b a).alloc C:=by
 simp only[World.setRow,World.alloc];congr 1
 apply YY;intro i;rw[YV];by_cases g:b=i
 ·subst g;rw[YZ,YZ];have e:b≠w.heap.size:=O;simp[e,YV]
 ·rw[YZ,YZ];simp[g,YV]
attribute [go_sem] OF OG setRow_size setRow_tape setRow_os setRow_output setRow_drawn
section
variable {P:Program}
theorem Q8 (w:World)(b d n e:Nat)(N:TypeDesc)(o:P.underlying e=some N)(L:(match N with| .struct _| .array _ _=>true|_=>false)=true)(F:(P.info? e).map (·.size)=some n)
 (z:(Jv w b d n).size=n):(loadVar e ⟨b,d,none⟩).run P w=.ok (.agg (Jv w b d n)) w:=by
 rcases Yo n with X|B
 ·subst X;have M:(loadCells ⟨b,d,none⟩ 0).run P w=.ok #[] w:=by simpa using run_loadCells_list (P:=P) w ⟨b,d,none⟩ [] (by simp)
  have p:Jv w b d 0=#[]:=Array.eq_empty_of_size_eq_zero z
  have g:(isAgg e).run P w=.ok true w:=by
   unfold isAgg;rw[Y0,Yn o w];cases N<;>simp_all
  cases hq:P.info? e with
  |none=>simp[hq] at F
  |some i=>
   have l:i.size=0:=by simpa[hq] using F
   simp[loadVar,Y0,g,sizeOf,typeInfo,hq,l,M,p]
 ·have M:(loadCells ⟨b,d,none⟩ (Jv w b d n).toList.length).run P w=.ok (Jv w b d n).toList.toArray w:=by
   refine run_loadCells_list (P:=P) w ⟨b,d,none⟩ _ (λJ v a=>?_);rw[W3];rw[Array.getElem?_toList] at a;have j:J<(Jv w b d n).size:=(Ja a).1;unfold Jv at a j;unfold World.cell?;cases hh:w.heap[b]? with
   |none=>rw[hh] at a;simp at a
   |some C=>
    rw[hh] at a j;cases C with
    |cells S t r=>
     simp only at a j|-;rw[Array.getElem?_extract] at a;split at a
     ·simpa using a
     ·cases a
    |_=>simp at a
  have g:(isAgg e).run P w=.ok true w:=by
   unfold isAgg;rw[Y0,Yn o w];cases N<;>simp_all
  rw[WS,z,Array.toArray_toList] at M;cases hq:P.info? e with
  |none=>simp[hq] at F
  |some i=>
   have l:i.size=n:=by simpa[hq] using F
   simp[loadVar,Y0,g,sizeOf,typeInfo,hq,l,M]
theorem Qf (a:Operand->Value)(w:World)(j:Option Tmp)(t:TypeId)(p:String)(g:Array Edge)(r:Option (Nat×Bool))(x:Operand)(d n:Nat)(N:TypeDesc)
 (l:P.underlying d=some N)(L:(match N with| .struct _| .array _ _=>true|_=>false)=true)(F:(P.info? d).map (·.size)=some n)(B:0<n)
 (z:(Iz w n (a x)).size=n):(execOp a ⟨j,.load d x,t,p,g,r⟩).run P w=.ok (.value (.agg (Iz w n (a x)))) w:=by
 generalize e:a x=v at z;unfold Iz at z|-;split at z
 ·rename_i b o;have:=Q8 (P:=P) w b o n d N l L F z;simp[execOp,e,Instr.loadAt,Instr.sureAddr,this,Result.andThen]
 ·simp at z;omega
theorem J9 (d:Operand->Value)(w:World)(z:Option Tmp)(t:TypeId)(C:String)(y:Array Edge)(r:Option (Nat×Bool))(x Q:Operand)(g n:Nat)
 (F:(P.info? g).map (·.size)=some n)(a:MF w n (d x)=true)(e:A9 n (d Q)=true):
 (execOp d ⟨z,.store g x Q,t,C,y,r⟩).run P w=.ok .skip (w.setRow (IA (d x)) (IB (d Q))):=by
 generalize p:d x=v at a;generalize A:d Q=G at e;unfold MF at a;unfold A9 at e;split at a
 ·rename_i b;split at e
  ·rename_i S;obtain⟨I,j⟩:=Bool.and_eq_true_iff.1 e;have I:S.size=n:=by simpa using I
   unfold JE at a;split at a
   ·rename_i o s u B;obtain⟨l,E⟩:=Bool.and_eq_true_iff.1 a;have l:o.size=n:=by simpa using l
    obtain rfl:u=(0,0):=by simpa using E
    have:=run_storeVar_row (P:=P) w b s g o S B (by rw[F,I]) O j;simp[execOp,p,A,Instr.storeAt,Instr.sureAddr,this,Result.andThen,IA,IB]
   ·cases a
  ·cases e
 ·cases a
theorem QS {e:Func}{p q:Tmp}{d:TypeId}(h:e.results=#[.cell p d,.tmp q])(a:Array Value)(w:World)(b n:Nat)(N:TypeDesc)(v:Value)
 (j:P.underlying d=some N)(L:(match N with| .struct _| .array _ _=>true|_=>false)=true)(F:(P.info? d).map (·.size)=some n)
 (E:a.getD p undef=.pointer (some ⟨b,0,none⟩))(l:a.getD q undef=v)(S:Array Value)(I:Jv w b 0 n=S)(z:S.size=n):
 (results e a).run P w=.ok (.tuple #[.agg S,v]) w:=by
 subst I;have o:a[p]?.getD undef=.pointer (some ⟨b,0,none⟩):=by simpa using E
 have g:a[q]?.getD undef=v:=by simpa using l
 simp[results,h,o,g,asAddr,Q8 w b 0 n d N j L F z]
theorem XO {e:Func}{p:Tmp}{a:TypeId}(h:e.results=#[.cell p a])(d:Array Value)(w:World)(b n:Nat)(N:TypeDesc)
 (g:P.underlying a=some N)(L:(match N with| .struct _| .array _ _=>true|_=>false)=true)(F:(P.info? a).map (·.size)=some n)
 (E:d.getD p undef=.pointer (some ⟨b,0,none⟩))(S:Array Value)(I:Jv w b 0 n=S)(z:S.size=n):
 (results e d).run P w=.ok (.agg S) w:=by
 subst I;have j:d[p]?.getD undef=.pointer (some ⟨b,0,none⟩):=by simpa using E
 simp[results,h,j,asAddr,Q8 w b 0 n a N g L F z]
end
def Xj (P:Program)(b:TypeId)(w:World)(v:Value):Result Next:=(execOp (λ_=>v) ⟨none,.load b (.const v),0,"",#[],none⟩).run P w
def XC (P:Program)(b:TypeId)(w:World)(v a:Value):Result Next:=(execOp (λC=>match C with| .tmp 0=>v|_=>a) ⟨none,.store b (.tmp 0) (.tmp 1),0,"",#[],none⟩).run P w
theorem Q2 (P:Program)(a:Operand->Value)(w:World)(g:Option Tmp)(t:TypeId)(d:String)(e:Array Edge)(r:Option (Nat×Bool))(x:Operand)(b:TypeId):
 (execOp a ⟨g,.load b x,t,d,e,r⟩).run P w=Xj P b w (a x):=by simp only[Xj,execOp]
theorem Qz (P:Program)(a:Operand->Value)(w:World)(g:Option Tmp)(t:TypeId)(d:String)(e:Array Edge)(r:Option (Nat×Bool))(x Q:Operand)(b:TypeId):
 (execOp a ⟨g,.store b x Q,t,d,e,r⟩).run P w=XC P b w (a x) (a Q):=by simp only[XC,execOp]
def AX:List Value->Bool
 |[]=>true
 |v::r=>v.oneCell'&&AX r
theorem Xd:∀l:List Value,AX l=true->l.all (·.oneCell')=true
 |[],_=>rfl
 |v::r,h=>by
  rw[AX,YO] at h;rw[List.all_cons,h.1,Xd r h.2];rfl
theorem SG:AX []=true:=rfl
theorem SH (k:IntKind)(n:Int)(r:List Value):AX (.int k n::r)=AX r:=by rw[AX];rfl
theorem PX (b:Bool)(r:List Value):AX (.bool b::r)=AX r:=by rw[AX];rfl
theorem ML (b:ByteArray)(r:List Value):AX (.string b::r)=AX r:=by rw[AX];rfl
attribute [go_sem] SG SH PX ML
theorem IC (a:Operand->Value)(w:World)(e:Option Tmp)(t:TypeId)(b:String)(d:Array Edge)(r:Option (Nat×Bool))(x:Operand):(execOp a ⟨e,.load 25 x,t,b,d,r⟩).run prog w=Xj prog 25 w (a x):=Q2 _ a w e t b d r x _
theorem KX (w:World)(b a:Nat)(z:(Jv w b a 16).size=16):Xj prog 25 w (.pointer (some ⟨b,a,none⟩))=.ok (.value (.agg (Jv w b a 16))) w:=
 Qf _ w none 0 "" #[] none _ _ 16 _ underlying25 rfl K D z
theorem Hk (a:Operand->Value)(w:World)(e:Option Tmp)(t:TypeId)(b:String)(d:Array Edge)(r:Option (Nat×Bool))(x Q:Operand):(execOp a ⟨e,.store 25 x Q,t,b,d,r⟩).run prog w=XC prog 25 w (a x) (a Q):=Qz _ a w e t b d r x Q _
theorem KY (a:Operand->Value)(w:World)(e:Option Tmp)(t:TypeId)(b:String)(d:Array Edge)(r:Option (Nat×Bool))(x:Operand):(execOp a ⟨e,.load 27 x,t,b,d,r⟩).run prog w=Xj prog 27 w (a x):=Q2 _ a w e t b d r x _
theorem MM (w:World)(b a:Nat)(z:(Jv w b a 17).size=17):Xj prog 27 w (.pointer (some ⟨b,a,none⟩))=.ok (.value (.agg (Jv w b a 17))) w:=
 Qf _ w none 0 "" #[] none _ _ 17 _ underlying27 rfl K D z
theorem ID (a:Operand->Value)(w:World)(e:Option Tmp)(t:TypeId)(b:String)(d:Array Edge)(r:Option (Nat×Bool))(x Q:Operand):(execOp a ⟨e,.store 27 x Q,t,b,d,r⟩).run prog w=XC prog 27 w (a x) (a Q):=Qz _ a w e t b d r x Q _
theorem KZ (w:World)(b:Nat)(S:Array Value)(a:JE w b 17=true)(z:S.size=17)(j:AX S.toList=true):XC prog 27 w (Jj b) (.agg S)=.ok .skip (w.setRow b S):=
 J9 _ w none 0 "" #[] none _ _ _ 17 K a (by show A9 _ (.agg S)=true;rw[QR,<-Y1,Xd _ j,z];simp)
theorem IE (a:Operand->Value)(w:World)(e:Option Tmp)(t:TypeId)(b:String)(d:Array Edge)(r:Option (Nat×Bool))(x:Operand):(execOp a ⟨e,.load 36 x,t,b,d,r⟩).run prog w=Xj prog 36 w (a x):=Q2 _ a w e t b d r x _
theorem K0 (w:World)(b a:Nat)(z:(Jv w b a 17).size=17):Xj prog 36 w (.pointer (some ⟨b,a,none⟩))=.ok (.value (.agg (Jv w b a 17))) w:=
 Qf _ w none 0 "" #[] none _ _ 17 _ underlying36 rfl K D z
theorem Hl (a:Operand->Value)(w:World)(e:Option Tmp)(t:TypeId)(b:String)(d:Array Edge)(r:Option (Nat×Bool))(x Q:Operand):(execOp a ⟨e,.store 36 x Q,t,b,d,r⟩).run prog w=XC prog 36 w (a x) (a Q):=Qz _ a w e t b d r x Q _
theorem IF (w:World)(b:Nat)(S:Array Value)(a:JE w b 17=true)(z:S.size=17)(j:AX S.toList=true):XC prog 36 w (Jj b) (.agg S)=.ok .skip (w.setRow b S):=
 J9 _ w none 0 "" #[] none _ _ _ 17 K a (by show A9 _ (.agg S)=true;rw[QR,<-Y1,Xd _ j,z];simp)
attribute [go_sem ↓] IC Hk KY ID IE Hl
attribute [go_sem] KX MM KZ K0 IF
end
section
open Go.RowKit
theorem Jef{p:Prop}(h:p:=by
 go_wp2_with fail
 go_ret;exact .mk rfl (Below.all (Jc _ _) _)):p:=h
theorem Jei{p:Prop}(h:p:=by
 go_wp2_with fail
 go_ret;exact⟨rfl,rfl⟩):p:=h
def adV (six:Bool)(B:Nat->Int):Value:=.agg (Jbr six B)
def U8 (B:Nat->Int):Prop:=∀i,0<=B i/\B i<256
def Ga (six:Bool):Int:=if six then 16 else 4
theorem Cz (six:Bool)(B:Nat->Int)(w:World):Jf 123 #[adV six B] w (Jz w (Jk (Ga six))):=by
 unfold adV;cases six
 all_goals
  go_enter func123,ntmps123
  exact Jef
theorem PY (a:Bool)(w:World):Jf 95 #[a] w λe d=>e=.returned (Jk (Ga a))/\w=d:=by
 cases a
 all_goals
  go_enter func95,ntmps95
  exact Jei
def eqL:List Int->List Int->Bool
 |[],[]=>true
 |x::l,y::m=>if x==y then eqL l m else false
 |_,_=>false
theorem EC:∀(l m:List Int),eqL l m=true↔l=m
 |[],[]=>by simp[eqL]
 |x::l,y::m=>by
  rw[eqL];by_cases h:x=y
  ·subst h;simp[EC l m]
  ·simp[h]
 |[],y::m=>by simp[eqL]
 |x::l,[]=>by simp[eqL]
def b16 (B:Nat->Int):List Int:=[B 0,B 1,B 2,B 3,B 4,B 5,B 6,B 7,B 8,B 9,B 10,B 11,B 12,B 13,B 14,B 15]
theorem PZ (B:Nat->Int)(i:Nat)(h:i<16):(b16 B)[i]? =some (B i):=by
 unfold b16;rcases i with _|_|_|_|_|_|_|_|_|_|_|_|_|_|_|_|i;all_goals first|rfl|omega
theorem TK {U a:Nat->Int}:b16 U=b16 a↔∀i,i<16->U i=a i:=by
 constructor
 ·intro h i F;have:=PZ U i F;rw[h,PZ a i F] at this;exact(Yp this).symm
 ·intro h;unfold b16;simp[h]
theorem Hm (w:World)(N:Nat)(e T B Q p C I l J d n g X o L V W R U r E v A t j y s G S M z P:Int):
 (Op.equalIn (N+2) 25 (.agg (Jb0 e T B Q p C I l J d n g X o L V)) (.agg (Jb0 W R U r E v A t j y s G S M z P))).run prog w=.ok (eqL [e,T,B,Q,p,C,I,l,J,d,n,g,X,o,L,V] [W,R,U,r,E,v,A,t,j,y,s,G,S,M,z,P]) w:=by
 have u:List.range' 0 16=[0,1,2,3,4,5,6,7,8,9,10,11,12,13,14,15]:=D;rw[Op.equalIn];simp only[Y0,Yn underlying25,Result.andThen_ok];simp[go_sem,Std.Legacy.Range.forIn_eq_forIn_range',Std.Legacy.Range.size,u];simp only[eqL,Y2];have F:∀(c:Prop) [Decidable c] (a b:Bool),(Result.ok (if c then a else b) w:Result Bool)=if c then Result.ok a w else Result.ok b w:=λc _ a b=>by split<;>rfl
 simp only[F]
attribute [go_sem] Hm
def Qr (a:Bool)(U:Nat->Int):Bool:=a||(List.range 12).all λi=>U (4+i)==0
theorem Bz {U:Nat->Int}:Qr false U=true↔∀i,4<=i->i<16->U i=0:=by
 unfold Qr;simp only[Y3,Y4,Y5,Y2];constructor
 ·intro h i a b;have:=h (i-4) O;rwa [show 4+(i-4)=i from O] at this
 ·intro h i F;exact h _ O O
theorem P0 (U:Nat->Int):eqL (b16 U) (b16 λi=>if i<4 then U i else 0)=Qr false U:=by
 rw[Bool.eq_iff_iff,EC,TK,Bz];constructor
 ·intro h i b a;have:=h i a;rw[Yw O] at this;exact this
 ·intro h i F;split
  ·rfl
  ·exact h i O F
def DF (n:Nat)(B:Nat->Int):List Value:=(List.range n).map λi=>.int .u8 (B i)
theorem CA (n:Nat)(B:Nat->Int)(J:Nat)(b:Value)(h:(DF n B)[J]? =some b):J<n/\b=.int .u8 (B J):=by
 unfold DF at h;rw[Yk] at h;by_cases a:J<n
 ·rw[List.getElem?_range a] at h;exact⟨a,by simpa using h.symm⟩
 ·rw[W5 (by simpa using a)] at h;cases h
theorem ZB (n:Nat)(B:Nat->Int):(DF n B).length=n:=by simp[DF]
theorem CB (n:Nat)(B:Nat->Int):∀a∈DF n B,a.oneCell'=true:=by
 intro a b;obtain⟨i,-,rfl⟩:=Yq.1 b;rfl
theorem MN {w:World}{b:Nat}{G:Bool}{U:Nat->Int}(h:∀J,w.cell? ⟨b,J,none⟩=((Jbr G U):Array Value)[J]?)(J:Nat)(a:J<16):Jg w b (1+J) (Jq (U J)):=by
 rw[h];rcases J with _|_|_|_|_|_|_|_|_|_|_|_|_|_|_|_|J;all_goals first|rfl|omega
theorem OH (U:Nat->Int)(w:World):Jf 68 #[adV false U] w (Jz w (.bool (Qr false U))):=by
 have a:∀w,Jf 123 #[adV false U] w (Jz w (Jk 4)):=Cz false U;unfold adV at a|-;go_enter func68,ntmps68
 go_wp2_with fail
 refine Xe 5 K K ?_;simp only[Y6,Y7,Y8,Y9];repeat go_big_quiet_step ((go_at_call 123;exact JD (a _)))
 refine Jaa ?_;intro x;have b:=(x.below.block _ (by simp;omega)).trans (Jab w (.cells (Jbr false U) 27) (.cells Jcj 25));have o:=(x.below.block _ (by simp)).trans (Jac w (.cells (Jbr false U) 27) (.cells (List.replicate 16 (Value.int .u8 0)).toArray 25));have j:Ji w x.world:=Ww (Below.all (Below.all (Jc _ _) _) _);have r:w.heap.size+1<x.world.heap.size:=by have:=x.below.size;simp at this;omega
 refine wpList_copy_splice rfl (.tmp 6) (.tmp 8) 22 22 rfl 5 underlying22 K (some ⟨w.heap.size+1,0,none⟩) (some ⟨w.heap.size,1,none⟩) 4 16 16 16 rfl rfl (w.heap.size+1) 0
  (List.replicate 16 (.int .u8 0)) 25 o (DF 4 U) (ZB _ _) (λ_=>⟨rfl,_,rfl,λJ v p=>?_⟩) (by rw[ZB];decide) (CB _ _) (w.heap.size+1) x.world (Jc _ _) (Je _) ?_
 ·obtain⟨y,rfl⟩:=CA _ _ _ _ p;rw[W3];exact MN (λJ=>WN _ _ J _ _ (0,0) b) J O
 intro d n g;have e:=(g.block _ (by simp)).trans b;have l:Jh d (w.heap.size+1) (Jck U) 25:=n.out;have u:Jv d w.heap.size 1 16=(Jb1 U:Array Value):=by rw[JG _ _ _ _ _ _ _ e];simp
 have t:Jv d (w.heap.size+1) 0 16=(Jck U:Array Value):=by rw[JG _ _ _ _ _ _ _ l];simp
 have s:Hid (Ji w d):=H (j.trans (g.mono O));clear b o n j r a g e l;go_wp2_with fail
 go_ret;exact .mk (J6 (P0 U)) s.out
theorem P1 (U:Nat->Int)(w:World):Jf 68 #[adV true U] w (Jz w (.bool (Qr true U))):=by
 have a:∀w,Jf 123 #[adV true U] w (Jz w (Jk 16)):=Cz true U;unfold adV at a|-;go_enter func68,ntmps68
 go_wp2_with fail
 refine Xe 5 K K ?_;simp only[Y6,Y7,Y8,Y9];repeat go_big_quiet_step ((go_at_call 123;exact JD (a _)))
 refine Jaa ?_;intro x;have b:=(x.below.block _ (by simp;omega)).trans (Jab w (.cells (Jbr true U) 27) (.cells Jcj 25));have o:=(x.below.block _ (by simp)).trans (Jac w (.cells (Jbr true U) 27) (.cells (List.replicate 16 (Value.int .u8 0)).toArray 25));have j:Ji w x.world:=Ww (Below.all (Below.all (Jc _ _) _) _);have r:w.heap.size+1<x.world.heap.size:=by have:=x.below.size;simp at this;omega
 refine wpList_copy_splice rfl (.tmp 6) (.tmp 8) 22 22 rfl 5 underlying22 K (some ⟨w.heap.size+1,0,none⟩) (some ⟨w.heap.size,1,none⟩) 16 16 16 16 rfl rfl (w.heap.size+1) 0
  (List.replicate 16 (.int .u8 0)) 25 o (DF 16 U) (ZB _ _) (λ_=>⟨rfl,_,rfl,λJ v p=>?_⟩) (by rw[ZB];decide) (CB _ _) (w.heap.size+1) x.world (Jc _ _) (Je _) ?_
 ·obtain⟨y,rfl⟩:=CA _ _ _ _ p;rw[W3];exact MN (λJ=>WN _ _ J _ _ (0,0) b) J O
 intro d n g;have e:=(g.block _ (by simp)).trans b;have l:Jh d (w.heap.size+1) (Jb1 U) 25:=n.out;have u:Jv d w.heap.size 1 16=(Jb1 U:Array Value):=by rw[JG _ _ _ _ _ _ _ e];simp
 have t:Jv d (w.heap.size+1) 0 16=(Jb1 U:Array Value):=by rw[JG _ _ _ _ _ _ _ l];simp
 have s:Hid (Ji w d):=H (j.trans (g.mono O));clear b o n j r a g e l;go_wp2_with fail
 go_ret;exact .mk (J6 ((EC _ _).2 rfl)) s.out
theorem Xo (a:Bool)(U:Nat->Int)(w:World):Jf 68 #[adV a U] w (Jz w (.bool (Qr a U))):=by
 cases a
 ·exact OH U w
 ·exact P1 U w
end
end Go.Proofs.YtkgjbipfhhjlpaaGreatDoor
