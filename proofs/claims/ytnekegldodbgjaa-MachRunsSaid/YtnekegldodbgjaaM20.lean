import Derived.Test.YtnekegldodbgjaaM19
import Derived.Test.YtnekegldodbgjaaM16
import Derived.Test.YtnekegldodbgjaaM18
set_option linter.all false
namespace Go.X
open Go Go.Proofs
def lookF:List (FuncId × (Nat × List Rx × XCode))->Fns
 |[],_=>none
 |(k,y) :: l,f=>cond (Nat.beq k f) (some y) (lookF l f)
def FL:List (FuncId × (Nat × List Rx × XCode)):=[(11,(142,[(6,none)],x11)),
 (18,(158,[(2,none),(3,none)],x18)),
 (21,(33,[(0,none)],x21)),
 (22,(27,[(4,none),(5,none)],x22)),
 (23,(37,[(2,none)],x23)),
 (24,(17,[(6,(some (.agg,6)))],x24)),
 (25,(17,[(4,none)],x25)),
 (26,(18,[],x26)),
 (28,(47,[(4,none)],x28)),
 (30,(7,[(2,none)],x30)),
 (31,(8,[],x31)),
 (32,(35,[(4,(some (.agg,36))),(5,none)],x32)),
 (33,(79,[(4,none)],x33)),
 (34,(32,[(6,(some (.agg,36)))],x34)),
 (35,(46,[(6,(some (.agg,36))),(7,(some (.agg,6))),(8,none)],x35)),
 (36,(30,[(6,none),(7,none)],x36)),
 (37,(44,[(6,none),(7,none)],x37)),
 (43,(103,[(0,none)],x43)),
 (44,(16,[(2,none),(3,none)],x44)),
 (45,(20,[(2,(some (.agg,3)))],x45)),
 (46,(35,[(2,none)],x46)),
 (47,(255,[(2,none),(3,none)],x47)),
 (48,(57,[(8,(some (.agg,6))),(9,none)],x48)),
 (49,(190,[(4,(some (.agg,36))),(5,(some (.agg,4))),(6,none)],x49)),
 (50,(8,[(2,none)],x50)),
 (52,(9,[(2,none)],x52)),
 (54,(8,[(2,none)],x54)),
 (55,(7,[(2,none)],x55)),
 (56,(7,[(2,none)],x56)),
 (57,(28,[],x57)),
 (58,(129,[(2,(some (.agg,4)))],x58)),
 (59,(16,[(2,none),(3,none)],x59)),
 (60,(31,[(6,none)],x60)),
 (61,(224,[(2,none)],x61)),
 (62,(30,[(6,none)],x62)),
 (63,(135,[(2,(some (.agg,5))),(3,none)],x63)),
 (64,(28,[(6,none)],x64)),
 (65,(11,[(2,none)],x65)),
 (66,(14,[(6,(some (.agg,36)))],x66)),
 (67,(17,[(6,none)],x67)),
 (68,(106,[(6,(some (.agg,36))),(7,(some (.agg,4))),(8,none)],x68)),
 (69,(37,[(6,none)],x69)),
 (70,(61,[(4,(some (.agg,36))),(5,(some (.agg,4))),(6,none)],x70)),
 (72,(51,[(2,(some (.agg,5))),(3,none)],x72)),
 (73,(5,[(2,none)],x73)),
 (74,(81,[(6,none),(7,none)],x74)),
 (75,(7,[(2,none)],x75)),
 (76,(111,[(4,none)],x76)),
 (77,(34,[(6,none)],x77)),
 (78,(107,[(2,none)],x78)),
 (79,(13,[(4,none)],x79)),
 (80,(114,[(6,none),(7,none)],x80)),
 (81,(35,[(6,none),(7,none)],x81)),
 (82,(15,[(4,none)],x82)),
 (83,(46,[(6,none),(7,none)],x83)),
 (84,(22,[(2,none)],x84)),
 (85,(100,[(6,none),(7,none)],x85)),
 (86,(44,[(6,none),(7,none)],x86)),
 (87,(26,[(2,none),(3,none),(4,none)],x87)),
 (88,(10,[(2,none)],x88)),
 (89,(36,[(6,none)],x89)),
 (90,(4,[(2,none)],x90)),
 (91,(48,[(6,none)],x91)),
 (92,(8,[(2,none)],x92)),
 (93,(51,[(4,none)],x93)),
 (94,(5,[(2,none)],x94)),
 (95,(9,[(4,none)],x95)),
 (96,(117,[(6,none),(7,none)],x96)),
 (97,(11,[(2,none)],x97)),
 (98,(51,[(4,none),(5,none)],x98)),
 (99,(4,[(2,none)],x99)),
 (100,(13,[(4,none)],x100))]
def allF (P:Program):List (FuncId × (Nat × List Rx × XCode))->Prop
 |[]=>True
 |(k,y) :: l=>fnx P k=some y/\allF P l
theorem lookF_ok {P:Program}:∀ {l:List (FuncId × (Nat × List Rx × XCode))},allF P l->∀ f y,lookF l f=some y->fnx P f=some y
 |[],_,_,_,h=>by cases h
 |(k,z) :: l,ha,f,y,h=>by
  simp only[lookF]at h
  cases hb:Nat.beq k f with
  |true=>rw[hb]at h;simp at h;subst h;rw[<- Nat.eq_of_beq_eq_true hb];exact ha.1
  |false=>rw[hb]at h;exact lookF_ok ha.2 f y h
theorem FL_ok:allF Try.prog FL:=⟨fx11,fx18,fx21,fx22,fx23,fx24,fx25,fx26,fx28,fx30,fx31,fx32,fx33,fx34,fx35,fx36,fx37,fx43,fx44,fx45,fx46,fx47,fx48,fx49,fx50,fx52,fx54,fx55,fx56,fx57,fx58,fx59,fx60,fx61,fx62,fx63,fx64,fx65,fx66,fx67,fx68,fx69,fx70,fx72,fx73,fx74,fx75,fx76,fx77,fx78,fx79,fx80,fx81,fx82,fx83,fx84,fx85,fx86,fx87,fx88,fx89,fx90,fx91,fx92,fx93,fx94,fx95,fx96,fx97,fx98,fx99,fx100,trivial⟩
def noSc:Short:=fun _ _ _ _=>none
theorem mixed:Try.prog.follows .mixedOrders=true:=by kernel_rfl
theorem FOK:FnsOK Try.prog (lookF FL) noSc:=⟨mixed,lookF_ok FL_ok,fun _ _ _ _ _ _ _ _ h=>by cases h⟩
end Go.X
namespace Go.X
open Go
def resOf (r:Option CR):Option (Value × Bool) :=
 match r with
 |some ⟨_,v,_,_,ok,_⟩=>some (v,ok)
 |none=>none
def updOf (r:Option CR):Hp :=
 match r with
 |some ⟨_,_,u,_,_,_⟩=>u
 |none=>[]
def newsOfR (r:Option CR):Nat :=
 match r with
 |some ⟨_,_,_,m,_,_⟩=>m
 |none=>0
theorem callE_ok' {P:Program}{F:Fns}{sc:Short} (hF:FnsOK P F sc) (k:Nat) (o:List Br):CEok P (callE F sc (exec F sc k o)):=by
 intro i f vs h n pre v upd news ok pr hc hok hpr
 exact callE_okO hF (exec_sound hF k) o i f vs h n pre v upd news ok pr hc hok hpr
theorem body_of_adet {P:Program}{f:FuncId}{vs:List Value}{pre:Hp}{v:Value}{upd:Hp}{n news:Nat} (h:ADet P f vs pre v upd n news):Body P f vs pre v upd n news :=
 ⟨h.1,fun ρ w cargs hvl hr hd=>h.2.2 ρ (hget pre) w cargs hvl hr (fun _ _=>rfl) (fun id h1 _=>hd id h1) ⟨n+news,Nat.le_refl _,hd _ (by omega)⟩⟩
theorem callE_shape {F:Fns}{sc:Short}{run:XCode->Tm->Hp->Nat->Option Ex}{i:Nat}{f:FuncId}{vs:List Value}{h:Hp}{n:Nat}{pre:Hp}{v:Value}{upd:Hp}{news:Nat}{ok:Bool}{pr:Prop} (hs:sc f vs h n=none)
  (hc:callE F sc run i f vs h n=some ⟨pre,v,upd,news,ok,pr⟩):pre=h/\pr:=by
 unfold callE at hc
 rw[hs]at hc
 simp only at hc
 repeat' split at hc
 all_goals first
  |(cases hc;done)
  |(simp only[mkCR,Option.some.injEq,CR.mk.injEq]at hc
    obtain⟨rfl,rfl,hu,hnews,rfl,rfl⟩:=hc
    exact⟨rfl,trivial⟩)
theorem body_run {P:Program}{F:Fns}{sc:Short} (hF:FnsOK P F sc){k:Nat}{o:List Br}{f:FuncId}{vs:List Value}{pre:Hp}{n:Nat}{v:Value}{ok:Bool} (hs:sc f vs pre n=none)
  (h:resOf (callE F sc (exec F sc k o) 0 f vs pre n)=some (v,ok)) (hok:ok=true) :
  Body P f vs pre v (updOf (callE F sc (exec F sc k o) 0 f vs pre n)) n (newsOfR (callE F sc (exec F sc k o) 0 f vs pre n)):=by
 cases hc:callE F sc (exec F sc k o) 0 f vs pre n with
 |none=>rw[hc]at h;cases h
 |some c =>
  obtain⟨pre',v',upd,news,ok',pr⟩:=c
  rw[hc]at h
  simp only[resOf,Option.some.injEq,Prod.mk.injEq]at h
  obtain⟨rfl,rfl⟩:=h
  obtain⟨rfl,hpr⟩:=callE_shape hs hc
  exact body_of_adet (callE_ok' hF k o _ _ _ _ _ _ _ _ _ _ _ hc hok hpr).2
end Go.X
namespace Go.X
open Go Go.Proofs
abbrev ran (f:FuncId) (vs:List Value):Option CR:=callE (lookF FL) noSc (exec (lookF FL) noSc 100000 []) 0 f vs [] 100
def rowV (a b c d:Int):Value:=.agg ⟨[.int .u8 a,.int .u32 b,.int .u32 c,.int .u32 d]⟩
def shTab:List (Int × Value):=[(55,rowV 78 115 0 0),
 (54,rowV 73 103 0 0),
 (53,rowV 74 111 0 0),
 (52,rowV 85 23 0 0),
 (51,rowV 85 55 0 0),
 (50,rowV 66 99 7 0),
 (49,rowV 66 99 6 0),
 (48,rowV 66 99 5 0),
 (47,rowV 66 99 4 0),
 (46,rowV 66 99 1 0),
 (45,rowV 66 99 0 0),
 (44,rowV 83 35 3 0),
 (43,rowV 83 35 2 0),
 (42,rowV 83 35 0 0),
 (39,rowV 73 3 4 0),
 (41,rowV 73 3 3 0),
 (40,rowV 73 3 2 0),
 (38,rowV 73 3 0 0),
 (37,rowV 73 27 0 0),
 (36,rowV 84 19 5 32),
 (35,rowV 84 19 5 0),
 (34,rowV 84 19 1 0),
 (33,rowV 73 19 7 0),
 (32,rowV 73 19 6 0),
 (31,rowV 73 19 4 0),
 (30,rowV 73 19 3 0),
 (29,rowV 73 19 2 0),
 (28,rowV 73 19 0 0),
 (27,rowV 82 59 7 1),
 (26,rowV 82 59 6 1),
 (25,rowV 82 59 5 1),
 (24,rowV 82 59 4 1),
 (23,rowV 82 59 0 1),
 (22,rowV 82 59 5 32),
 (21,rowV 82 59 5 0),
 (20,rowV 82 59 1 0),
 (19,rowV 82 59 0 32),
 (18,rowV 82 59 0 0),
 (17,rowV 82 51 7 1),
 (16,rowV 82 51 6 1),
 (15,rowV 82 51 5 1),
 (14,rowV 82 51 4 1),
 (13,rowV 82 51 3 1),
 (12,rowV 82 51 1 1),
 (11,rowV 82 51 0 1),
 (10,rowV 82 51 7 0),
 (9,rowV 82 51 6 0),
 (8,rowV 82 51 5 32),
 (7,rowV 82 51 5 0),
 (6,rowV 82 51 4 0),
 (5,rowV 82 51 3 0),
 (4,rowV 82 51 2 0),
 (3,rowV 82 51 1 0),
 (2,rowV 82 51 0 32),
 (1,rowV 82 51 0 0)]
def tabHas:List (Int × Value)->Value->Bool
 |[],_=>false
 |(k,_) :: l,q=>keq q (.int .i64 k)||tabHas l q
def tabVal (z:Value):List (Int × Value)->Value->Value
 |[],_=>z
 |(k,v) :: l,q=>cond (keq q (.int .i64 k)) v (tabVal z l q)
abbrev row0:Value:=rowV 0 0 0 0
def mapHas:Option Blk->Value->Bool
 |some (.map _ _ _ h _)=>h
 |_=>fun _=>false
def mapVal:Option Blk->Value->Value
 |some (.map _ _ _ _ v)=>v
 |_=>fun _=>undefd
theorem r43:resOf (ran 43 [])=some (.map (some 100),true):=by kernel_rfl
theorem b43:hget (updOf (ran 43 [])) 100=some (.map 3 104 55 (mapHas (hget (updOf (ran 43 [])) 100)) (mapVal (hget (updOf (ran 43 [])) 100))):=by kernel_rfl
theorem h43 (q:Value):mapHas (hget (updOf (ran 43 [])) 100) q=tabHas shTab q/\mapVal (hget (updOf (ran 43 [])) 100) q=tabVal row0 shTab q:=⟨by kernel_rfl,by kernel_rfl⟩
def cells4:Value->Int × Int × Int × Int
 | .agg ⟨[.int _ a,.int _ b,.int _ c,.int _ d]⟩=>(a,b,c,d)
 |_=>(0,0,0,0)
def tabC:List (Int × Value)->Value->Int × Int × Int × Int
 |[],_=>(0,0,0,0)
 |(k,v) :: l,q=>cond (keq q (.int .i64 k)) (cells4 v) (tabC l q)
def rowOf (q:Value):Int × Int × Int × Int:=tabC shTab q
def asRow (p:Int × Int × Int × Int):Value:=rowV p.1 p.2.1 p.2.2.1 p.2.2.2
theorem tab_cols (q:Value):∀ {l:List (Int × Value)},(∀ p∈l,p.2=asRow (cells4 p.2))->tabVal row0 l q=asRow (tabC l q)
 |[],_=>rfl
 |(k,v) :: l,h=>by
  simp only[tabVal,tabC]
  cases keq q (.int .i64 k)with
  |true=>exact h (k,v) (.head _)
  |false=>exact tab_cols q fun p hp=>h p (.tail _ hp)
theorem tab_sh (q:Value):tabVal row0 shTab q=rowV (rowOf q).1 (rowOf q).2.1 (rowOf q).2.2.1 (rowOf q).2.2.2:=tab_cols q fun p hp=>by
 simp only[shTab,List.mem_cons,List.not_mem_nil,or_false]at hp
 repeat' (rcases hp with rfl|hp)
 all_goals first|rfl|(subst hp;rfl)
def shBlk:Blk:=.map 3 104 55 (tabHas shTab) (fun q=>rowV (rowOf q).1 (rowOf q).2.1 (rowOf q).2.2.1 (rowOf q).2.2.2)
theorem c43 (n:Nat):ADet Try.prog 43 [] [] (.map (some n)) [(n,some shBlk)] n 1:=by
 refine adet_of_body (body_run FOK rfl r43 rfl) [] [(n,100)] ?_ rfl trivial rfl ?_ ?_ ?_
 ·simp[namesOK,updRW,shBlk,Blk.ro,lt_blt]
 ·simp[rn,ren,renP,asc,flip]
 ·simp only[List.append_nil,HsOK,natMem,asc,flip,Nat.beq_refl,cond_true,and_true]
  rw[b43]
  refine⟨rfl,rfl,rfl,fun d q _ _=>⟨(h43 q).1.symm,?_⟩⟩
  rw[(h43 q).2,tab_sh]
  rfl
 ·simp[namesOf,natMem,asc,flip,nodupB]
def con43:Con Try.prog where
 f:=43
 run:=fun vs _ n=>match vs with
  |[]=>some ([],.map (some n),[(n,some shBlk)],1,true)
  |_=>none
 ok:=fun vs h n pre v upd news hx=>by
  split at hx
  ·simp only[Option.some.injEq,Prod.mk.injEq,and_true]at hx
   obtain⟨rfl,rfl,rfl,rfl⟩:=hx
   exact⟨fun id hid=>by simp[fstL]at hid,c43 n⟩
  ·cases hx
abbrev sc43:Short:=scOf [con43]
theorem FOK43:FnsOK Try.prog (lookF FL) sc43:=fok FOK _
def i18 (op rd rs1 rs2 imm:Int):Value:=.agg ⟨[.int .i64 op,.int .i64 rd,.int .i64 rs1,.int .i64 rs2,.int .i64 imm]⟩
def iB (op rd rs1 rs2 imm:Int):Blk:=.var [.int .i64 op,.int .i64 rd,.int .i64 rs1,.int .i64 rs2,.int .i64 imm]
def sB (F o f3 f7:Int):Blk:=.var [.int .u8 F,.int .u32 o,.int .u32 f3,.int .u32 f7]
def T18a (op rd rs1 rs2 imm:Int):Tm:=[(3,true,.int .i64 0),(2,true,.int .u32 0),(1,true,.pointer (some ⟨100,0,some 0⟩)),(0,true,i18 op rd rs1 rs2 imm)]
def H18a (op rd rs1 rs2 imm:Int):Hp:=[(100,some (iB op rd rs1 rs2 imm))]
theorem e18a (op rd rs1 rs2 imm:Int):exec (lookF FL) sc43 10 [] (.region x18_0) (argTm 0 [i18 op rd rs1 rs2 imm]) [] 100=some ⟨[],.normal,T18a op rd rs1 rs2 imm,H18a op rd rs1 rs2 imm,101,true⟩:=by kernel_rfl
def d18:XCode:=.draw x18_1 [[],[],[1],[0,1,2],[0,1,2,3],[0,1,2,3,4],[0,1,2,3,4],[],[0,1,2,3,4,5,7],[0,1,2,3,4,5,6,7,8]]
def T18b (op rd rs1 rs2 imm F o f3 f7:Int) (b:Bool):Tm:=[(5,true,.bool b),(4,true,.pointer (some ⟨102,0,some 0⟩)),(23,true,.bool b),(22,true,rowV F o f3 f7),
 (17,true,.tuple ⟨[rowV F o f3 f7,.bool b]⟩),(21,true,.tuple ⟨[rowV F o f3 f7,.bool b]⟩),(20,true,.int .i64 op),(19,true,.pointer (some ⟨100,0,some 0⟩)),(18,true,.map (some 101))]++T18a op rd rs1 rs2 imm
def H18b (op rd rs1 rs2 imm F o f3 f7:Int):Hp:=[(102,some (sB F o f3 f7)),(102,some (sB 0 0 0 0)),(101,some shBlk),(100,some (iB op rd rs1 rs2 imm))]
def E18b (op rd rs1 rs2 imm F o f3 f7:Int) (b:Bool):Prop :=
 exec (lookF FL) sc43 10 [] d18 (T18a op rd rs1 rs2 imm) (H18a op rd rs1 rs2 imm) 101=some ⟨[],.normal,T18b op rd rs1 rs2 imm F o f3 f7 b,H18b op rd rs1 rs2 imm F o f3 f7,103,true⟩
def T18 (b:Bool):Tm:=[(5,true,.bool b),(4,true,.pointer (some ⟨102,0,some 0⟩)),(3,true,.int .i64 0),(2,true,.int .u32 0),(1,true,.pointer (some ⟨100,0,some 0⟩))]
def H18 (op rd rs1 rs2 imm F o f3 f7:Int):Hp:=[(102,some (sB F o f3 f7)),(100,some (iB op rd rs1 rs2 imm))]
end Go.X
