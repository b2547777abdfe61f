import Derived.Test.YtkghggngmpmigaaD19
import Derived.Test.YtkghggngmpmigaaD16
import Derived.Test.YtkghggngmpmigaaD18
set_option linter.all false
namespace Go.X
open Go Go.Proofs
def lookF:List (FuncId × (Nat × List Rx × XCode))->Fns
 |[],_=>none
 |(k,y) :: l,f=>cond (Nat.beq k f) (some y) (lookF l f)
def FL:List (FuncId × (Nat × List Rx × XCode)):=[(13,(77,[(4,none),(5,none),(6,none)],x17)),
 (25,(158,[(2,none),(3,none)],x18)),
 (15,(27,[(4,none),(5,none)],x22)),
 (33,(17,[(6,(some (.agg,6)))],x24)),
 (18,(17,[(4,none)],x25)),
 (12,(18,[],x26)),
 (34,(7,[(2,none)],x30)),
 (19,(8,[],x31)),
 (70,(30,[(6,none),(7,none)],x36)),
 (11,(44,[(6,none),(7,none)],x37)),
 (21,(109,[(2,none)],x39)),
 (22,(50,[],x40)),
 (23,(70,[(2,none)],x41)),
 (24,(99,[(4,none)],x42)),
 (41,(103,[(0,none)],x43)),
 (42,(16,[(2,none),(3,none)],x44)),
 (43,(20,[(2,(some (.agg,3)))],x45)),
 (44,(35,[(2,none)],x46)),
 (53,(57,[(8,(some (.agg,6))),(9,none)],x48)),
 (20,(8,[(2,none)],x50)),
 (35,(85,[(2,none)],x51)),
 (36,(9,[(2,none)],x52)),
 (37,(20,[(4,none)],x53)),
 (38,(8,[(2,none)],x54)),
 (39,(7,[(2,none)],x55)),
 (40,(7,[(2,none)],x56)),
 (55,(28,[],x57)),
 (56,(224,[(2,none)],x61)),
 (54,(11,[(2,none),(3,none)],x71)),
 (57,(51,[(2,(some (.agg,5))),(3,none)],x72)),
 (58,(5,[(2,none)],x73)),
 (59,(81,[(6,none),(7,none)],x74)),
 (60,(7,[(2,none)],x75)),
 (61,(111,[(4,none)],x76)),
 (62,(34,[(6,none)],x77)),
 (63,(107,[(2,none)],x78)),
 (64,(46,[(6,none),(7,none)],x83)),
 (65,(22,[(2,none)],x84)),
 (67,(100,[(6,none),(7,none)],x85)),
 (68,(44,[(6,none),(7,none)],x86)),
 (69,(26,[(2,none),(3,none),(4,none)],x87)),
 (71,(10,[(2,none)],x88)),
 (72,(51,[(4,none),(5,none)],x98)),
 (73,(4,[(2,none)],x99)),
 (7,(164,[(2,none)],x307)),
 (8,(59,[(2,(some (.agg,2))),(3,none)],x308)),
 (9,(28,[(0,none)],x309)),
 (10,(138,[(6,none),(7,(some (.agg,5))),(8,none)],x310)),
 (14,(14,[(2,none)],x314)),
 (16,(28,[(2,none)],x316)),
 (17,(31,[(2,none),(3,none)],x317)),
 (26,(53,[],x326)),
 (27,(23,[],x327)),
 (28,(44,[],x328)),
 (29,(30,[],x329)),
 (30,(90,[],x330)),
 (31,(37,[],x331)),
 (32,(67,[],x332)),
 (45,(15,[],x345)),
 (46,(20,[],x346)),
 (47,(28,[],x347)),
 (48,(28,[],x348)),
 (49,(7,[],x349)),
 (50,(13,[],x350)),
 (51,(20,[],x351)),
 (52,(28,[],x352))]
def allF (P:Program):List (FuncId × (Nat × List Rx × XCode))->Prop
 |[]=>True
 |(k,y) :: l=>fnx P k=some y/\allF P l
theorem lookF_ok {P:Program}:∀ {l:List (FuncId × (Nat × List Rx × XCode))},allF P l->∀ f y,lookF l f=some y->fnx P f=some y
 |[],_,_,_,h=>by cases h
 |(k,z) :: l,ha,f,y,h=>by
  simp only[lookF]at h
  cases hb:Nat.beq k f with
  |true=>rw[hb]at h;simp at h;subst h;rw[<- Nat.eq_of_beq_eq_true hb];exact ha.1
  |false=>rw[hb]at h;exact lookF_ok ha.2 f y h
theorem FL_ok:allF Try.prog FL:=⟨fx17,fx18,fx22,fx24,fx25,fx26,fx30,fx31,fx36,fx37,fx39,fx40,fx41,fx42,fx43,fx44,fx45,fx46,fx48,fx50,fx51,fx52,fx53,fx54,fx55,fx56,fx57,fx61,fx71,fx72,fx73,fx74,fx75,fx76,fx77,fx78,fx83,fx84,fx85,fx86,fx87,fx88,fx98,fx99,fx307,fx308,fx309,fx310,fx314,fx316,fx317,fx326,fx327,fx328,fx329,fx330,fx331,fx332,fx345,fx346,fx347,fx348,fx349,fx350,fx351,fx352,trivial⟩
def noSc:Short:=fun _ _ _ _=>none
theorem mixed:Try.prog.follows .mixedOrders=true:=by kernel_rfl
theorem FOK:FnsOK Try.prog (lookF FL) noSc:=⟨mixed,lookF_ok FL_ok,fun _ _ _ _ _ _ _ _ h=>by cases h⟩
end Go.X
namespace Go.X
open Go
def resOf (r:Option CR):Option (Value × Bool) :=
 match r with
 |some ⟨_,v,_,_,ok,_⟩=>some (v,ok)
 |none=>none
def updOf (r:Option CR):Hp :=
 match r with
 |some ⟨_,_,u,_,_,_⟩=>u
 |none=>[]
def newsOfR (r:Option CR):Nat :=
 match r with
 |some ⟨_,_,_,m,_,_⟩=>m
 |none=>0
theorem callE_ok' {P:Program}{F:Fns}{sc:Short} (hF:FnsOK P F sc) (k:Nat) (o:List Br):CEok P (callE F sc (exec F sc k o)):=by
 intro i f vs h n pre v upd news ok pr hc hok hpr
 exact callE_okO hF (exec_sound hF k) o i f vs h n pre v upd news ok pr hc hok hpr
theorem body_of_adet {P:Program}{f:FuncId}{vs:List Value}{pre:Hp}{v:Value}{upd:Hp}{n news:Nat} (h:ADet P f vs pre v upd n news):Body P f vs pre v upd n news :=
 ⟨h.1,fun ρ w cargs hvl hr hd=>h.2.2 ρ (hget pre) w cargs hvl hr (fun _ _=>rfl) (fun id h1 _=>hd id h1) ⟨n+news,Nat.le_refl _,hd _ (by omega)⟩⟩
theorem callE_shape {F:Fns}{sc:Short}{run:XCode->Tm->Hp->Nat->Option Ex}{i:Nat}{f:FuncId}{vs:List Value}{h:Hp}{n:Nat}{pre:Hp}{v:Value}{upd:Hp}{news:Nat}{ok:Bool}{pr:Prop} (hs:sc f vs h n=none)
  (hc:callE F sc run i f vs h n=some ⟨pre,v,upd,news,ok,pr⟩):pre=h/\pr:=by
 unfold callE at hc
 rw[hs]at hc
 simp only at hc
 repeat' split at hc
 all_goals first
  |(cases hc;done)
  |(simp only[mkCR,Option.some.injEq,CR.mk.injEq]at hc
    obtain⟨rfl,rfl,hu,hnews,rfl,rfl⟩:=hc
    exact⟨rfl,trivial⟩)
theorem body_run {P:Program}{F:Fns}{sc:Short} (hF:FnsOK P F sc){k:Nat}{o:List Br}{f:FuncId}{vs:List Value}{pre:Hp}{n:Nat}{v:Value}{ok:Bool} (hs:sc f vs pre n=none)
  (h:resOf (callE F sc (exec F sc k o) 0 f vs pre n)=some (v,ok)) (hok:ok=true) :
  Body P f vs pre v (updOf (callE F sc (exec F sc k o) 0 f vs pre n)) n (newsOfR (callE F sc (exec F sc k o) 0 f vs pre n)):=by
 cases hc:callE F sc (exec F sc k o) 0 f vs pre n with
 |none=>rw[hc]at h;cases h
 |some c =>
  obtain⟨pre',v',upd,news,ok',pr⟩:=c
  rw[hc]at h
  simp only[resOf,Option.some.injEq,Prod.mk.injEq]at h
  obtain⟨rfl,rfl⟩:=h
  obtain⟨rfl,hpr⟩:=callE_shape hs hc
  exact body_of_adet (callE_ok' hF k o _ _ _ _ _ _ _ _ _ _ _ hc hok hpr).2
end Go.X
namespace Go.X
open Go Go.Proofs
abbrev ran (f:FuncId) (vs:List Value):Option CR:=callE (lookF FL) noSc (exec (lookF FL) noSc 100000 []) 0 f vs [] 100
def rowV (a b c d:Int):Value:=.agg ⟨[.int .u8 a,.int .u32 b,.int .u32 c,.int .u32 d]⟩
def shTab:List (Int × Value):=[(55,rowV 78 115 0 0),
 (54,rowV 73 103 0 0),
 (53,rowV 74 111 0 0),
 (52,rowV 85 23 0 0),
 (51,rowV 85 55 0 0),
 (50,rowV 66 99 7 0),
 (49,rowV 66 99 6 0),
 (48,rowV 66 99 5 0),
 (47,rowV 66 99 4 0),
 (46,rowV 66 99 1 0),
 (45,rowV 66 99 0 0),
 (44,rowV 83 35 3 0),
 (43,rowV 83 35 2 0),
 (42,rowV 83 35 0 0),
 (39,rowV 73 3 4 0),
 (41,rowV 73 3 3 0),
 (40,rowV 73 3 2 0),
 (38,rowV 73 3 0 0),
 (37,rowV 73 27 0 0),
 (36,rowV 84 19 5 32),
 (35,rowV 84 19 5 0),
 (34,rowV 84 19 1 0),
 (33,rowV 73 19 7 0),
 (32,rowV 73 19 6 0),
 (31,rowV 73 19 4 0),
 (30,rowV 73 19 3 0),
 (29,rowV 73 19 2 0),
 (28,rowV 73 19 0 0),
 (27,rowV 82 59 7 1),
 (26,rowV 82 59 6 1),
 (25,rowV 82 59 5 1),
 (24,rowV 82 59 4 1),
 (23,rowV 82 59 0 1),
 (22,rowV 82 59 5 32),
 (21,rowV 82 59 5 0),
 (20,rowV 82 59 1 0),
 (19,rowV 82 59 0 32),
 (18,rowV 82 59 0 0),
 (17,rowV 82 51 7 1),
 (16,rowV 82 51 6 1),
 (15,rowV 82 51 5 1),
 (14,rowV 82 51 4 1),
 (13,rowV 82 51 3 1),
 (12,rowV 82 51 1 1),
 (11,rowV 82 51 0 1),
 (10,rowV 82 51 7 0),
 (9,rowV 82 51 6 0),
 (8,rowV 82 51 5 32),
 (7,rowV 82 51 5 0),
 (6,rowV 82 51 4 0),
 (5,rowV 82 51 3 0),
 (4,rowV 82 51 2 0),
 (3,rowV 82 51 1 0),
 (2,rowV 82 51 0 32),
 (1,rowV 82 51 0 0)]
def tabHas:List (Int × Value)->Value->Bool
 |[],_=>false
 |(k,_) :: l,q=>keq q (.int .i64 k)||tabHas l q
def tabVal (z:Value):List (Int × Value)->Value->Value
 |[],_=>z
 |(k,v) :: l,q=>cond (keq q (.int .i64 k)) v (tabVal z l q)
abbrev row0:Value:=rowV 0 0 0 0
def mapHas:Option Blk->Value->Bool
 |some (.map _ _ _ h _)=>h
 |_=>fun _=>false
def mapVal:Option Blk->Value->Value
 |some (.map _ _ _ _ v)=>v
 |_=>fun _=>undefd
theorem r43:resOf (ran 41 [])=some (.map (some 100),true):=by kernel_rfl
theorem b43:hget (updOf (ran 41 [])) 100=some (.map 3 99 55 (mapHas (hget (updOf (ran 41 [])) 100)) (mapVal (hget (updOf (ran 41 [])) 100))):=by kernel_rfl
theorem h43 (q:Value):mapHas (hget (updOf (ran 41 [])) 100) q=tabHas shTab q/\mapVal (hget (updOf (ran 41 [])) 100) q=tabVal row0 shTab q:=⟨by kernel_rfl,by kernel_rfl⟩
def cells4:Value->Int × Int × Int × Int
 | .agg ⟨[.int _ a,.int _ b,.int _ c,.int _ d]⟩=>(a,b,c,d)
 |_=>(0,0,0,0)
def tabC:List (Int × Value)->Value->Int × Int × Int × Int
 |[],_=>(0,0,0,0)
 |(k,v) :: l,q=>cond (keq q (.int .i64 k)) (cells4 v) (tabC l q)
def rowOf (q:Value):Int × Int × Int × Int:=tabC shTab q
def asRow (p:Int × Int × Int × Int):Value:=rowV p.1 p.2.1 p.2.2.1 p.2.2.2
theorem tab_cols (q:Value):∀ {l:List (Int × Value)},(∀ p∈l,p.2=asRow (cells4 p.2))->tabVal row0 l q=asRow (tabC l q)
 |[],_=>rfl
 |(k,v) :: l,h=>by
  simp only[tabVal,tabC]
  cases keq q (.int .i64 k)with
  |true=>exact h (k,v) (.head _)
  |false=>exact tab_cols q fun p hp=>h p (.tail _ hp)
theorem tab_sh (q:Value):tabVal row0 shTab q=rowV (rowOf q).1 (rowOf q).2.1 (rowOf q).2.2.1 (rowOf q).2.2.2:=tab_cols q fun p hp=>by
 simp only[shTab,List.mem_cons,List.not_mem_nil,or_false]at hp
 repeat' (rcases hp with rfl|hp)
 all_goals first|rfl|(subst hp;rfl)
def shBlk:Blk:=.map 3 99 55 (tabHas shTab) (fun q=>rowV (rowOf q).1 (rowOf q).2.1 (rowOf q).2.2.1 (rowOf q).2.2.2)
theorem c43 (n:Nat):ADet Try.prog 41 [] [] (.map (some n)) [(n,some shBlk)] n 1:=by
 refine adet_of_body (body_run FOK rfl r43 rfl) [] [(n,100)] ?_ rfl trivial rfl ?_ ?_ ?_
 ·simp[namesOK,updRW,shBlk,Blk.ro,lt_blt]
 ·simp[rn,ren,renP,asc,flip]
 ·simp only[List.append_nil,HsOK,natMem,asc,flip,Nat.beq_refl,cond_true,and_true]
  rw[b43]
  refine⟨rfl,rfl,rfl,fun d q _ _=>⟨(h43 q).1.symm,?_⟩⟩
  rw[(h43 q).2,tab_sh]
  rfl
 ·simp[namesOf,natMem,asc,flip,nodupB]
def con43:Con Try.prog where
 f:=41
 run:=fun vs _ n=>match vs with
  |[]=>some ([],.map (some n),[(n,some shBlk)],1,true)
  |_=>none
 ok:=fun vs h n pre v upd news hx=>by
  split at hx
  ·simp only[Option.some.injEq,Prod.mk.injEq,and_true]at hx
   obtain⟨rfl,rfl,rfl,rfl⟩:=hx
   exact⟨fun id hid=>by simp[fstL]at hid,c43 n⟩
  ·cases hx
abbrev sc43:Short:=scOf [con43]
theorem FOK43:FnsOK Try.prog (lookF FL) sc43:=fok FOK _
def i18 (op rd rs1 rs2 imm:Int):Value:=.agg ⟨[.int .i64 op,.int .i64 rd,.int .i64 rs1,.int .i64 rs2,.int .i64 imm]⟩
def iB (op rd rs1 rs2 imm:Int):Blk:=.var [.int .i64 op,.int .i64 rd,.int .i64 rs1,.int .i64 rs2,.int .i64 imm]
def sB (F o f3 f7:Int):Blk:=.var [.int .u8 F,.int .u32 o,.int .u32 f3,.int .u32 f7]
def T18a (op rd rs1 rs2 imm:Int):Tm:=[(3,true,.int .i64 0),(2,true,.int .u32 0),(1,true,.pointer (some ⟨100,0,some 0⟩)),(0,true,i18 op rd rs1 rs2 imm)]
def H18a (op rd rs1 rs2 imm:Int):Hp:=[(100,some (iB op rd rs1 rs2 imm))]
theorem e18a (op rd rs1 rs2 imm:Int):exec (lookF FL) sc43 10 [] (.region x18_0) (argTm 0 [i18 op rd rs1 rs2 imm]) [] 100=some ⟨[],.normal,T18a op rd rs1 rs2 imm,H18a op rd rs1 rs2 imm,101,true⟩:=by kernel_rfl
def d18:XCode:=.draw x18_1 [[],[],[1],[0,1,2],[0,1,2,3],[0,1,2,3,4],[0,1,2,3,4],[],[0,1,2,3,4,5,7],[0,1,2,3,4,5,6,7,8]]
def T18b (op rd rs1 rs2 imm F o f3 f7:Int) (b:Bool):Tm:=[(5,true,.bool b),(4,true,.pointer (some ⟨102,0,some 0⟩)),(23,true,.bool b),(22,true,rowV F o f3 f7),
 (17,true,.tuple ⟨[rowV F o f3 f7,.bool b]⟩),(21,true,.tuple ⟨[rowV F o f3 f7,.bool b]⟩),(20,true,.int .i64 op),(19,true,.pointer (some ⟨100,0,some 0⟩)),(18,true,.map (some 101))]++T18a op rd rs1 rs2 imm
def H18b (op rd rs1 rs2 imm F o f3 f7:Int):Hp:=[(102,some (sB F o f3 f7)),(102,some (sB 0 0 0 0)),(101,some shBlk),(100,some (iB op rd rs1 rs2 imm))]
def E18b (op rd rs1 rs2 imm F o f3 f7:Int) (b:Bool):Prop :=
 exec (lookF FL) sc43 10 [] d18 (T18a op rd rs1 rs2 imm) (H18a op rd rs1 rs2 imm) 101=some ⟨[],.normal,T18b op rd rs1 rs2 imm F o f3 f7 b,H18b op rd rs1 rs2 imm F o f3 f7,103,true⟩
def T18 (b:Bool):Tm:=[(5,true,.bool b),(4,true,.pointer (some ⟨102,0,some 0⟩)),(3,true,.int .i64 0),(2,true,.int .u32 0),(1,true,.pointer (some ⟨100,0,some 0⟩))]
def H18 (op rd rs1 rs2 imm F o f3 f7:Int):Hp:=[(102,some (sB F o f3 f7)),(100,some (iB op rd rs1 rs2 imm))]
end Go.X
