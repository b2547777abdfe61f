import Derived.Test.YtnekegldodbgjaaM24
import Derived.Laws.IdiomRangeMap
import Derived.Test.YtnekegldodbgjaaM23
import Derived.Test.YtnekegldodbgjaaM22
import Derived.Maps.RangeRun
set_option linter.all false
namespace Go.X
open Go Go.Proofs
theorem wpOp_ok {P:Program}{ops:Array Oper}{Q:Exit->Act->World->Prop}{j:Nat}{o:Oper}{K:Act->World->Prop}{a:Act} {w w':World}{v:Value} (hoj:ops[j]?=some o) (hg:o.guard=none)
  (h:(execOp a.eval o).run P w=.ok (.value v) w') (hK:K (a.put o.dst v) w'):wpOp P ops Q j K a w:=by
 unfold wpOp
 rw[hoj]
 have hw:Region.wanted o (yielded ops a.tmps)=true:=by unfold Region.wanted;rw[hg]
 simp only[hw,if_true]
 refine .inl ?_
 unfold Oper.wp
 rw[h]
 exact hK
def fstC:Code->Code
 | .seq a _=>a
 |c=>c
def sndC:Code->Code
 | .seq _ b=>b
 |c=>c
def inC:Code->Code
 | .block _ a=>a
 | .loop a=>a
 |c=>c
def opsC:Code->Array Oper
 | .region _ o _=>o
 |_=>#[]
noncomputable def body20:Code:=match Try.f20.body with
 |some c=>c
 |none=>.skip
noncomputable def mid20:Code:=fstC (sndC body20)
noncomputable def loop20:Code:=sndC mid20
noncomputable def round20:Code:=inC (inC loop20)
section
variable {P:Program}{ρ:Operand->Value}{o:Oper} {w w':World}{v:Value}
theorem exec_range {t:TypeId}{x:Operand} (ho:o.op=.range t x) (h:(Instr.range t (ρ x)).run P w=.ok v w'):(execOp ρ o).run P w=.ok (.value v) w':=by
 unfold execOp
 simp only[ho,Sem.run_bind,h,Result.andThen]
 rfl
theorem exec_next {x:Operand}{b:Bool} (ho:o.op=.next x b) (h:(Instr.next (ρ x) b o.type).run P w=.ok v w'):(execOp ρ o).run P w=.ok (.value v) w':=by
 unfold execOp
 simp only[ho,Sem.run_bind,h,Result.andThen]
 rfl
theorem exec_entry {x:Operand} (ho:o.op=.entry x) (h:(Instr.entry (ρ x)).run P w=.ok v w'):(execOp ρ o).run P w=.ok (.value v) w':=by
 unfold execOp
 simp only[ho,Sem.run_bind,h,Result.andThen]
 rfl
end
end Go.X
namespace Go.X
open Go
theorem entry_val {d:TypeDesc}{ρ:Rn}{z:Value}{has:Value->Bool}{val:Value->Value}{es:Array MapEntry}{clock:Nat} (hs:Stamps es clock) (h6:∀ e∈es.toList,keyOf d e.key=true)
  (h7 : ∀ q,keyOf d q=true->match es.toList.find? (fun e=>keq q e.key)with
      |some e=>has q=true/\V ρ (val q) e.val
      |none=>has q=false/\V ρ (val q) z){e:MapEntry} (he:e∈es.toList):has e.key=true/\V ρ (val e.key) e.val:=by
 have hk:=h6 e he
 have h:=h7 e.key hk
 cases hf:es.toList.find? (fun x=>keq e.key x.key)with
 |none=>exact absurd ((keq_eq hk hk).2 rfl) (List.find?_eq_none.1 hf e he)
 |some e1 =>
  rw[hf]at h
  have he1:=List.mem_of_find?_eq_some hf
  have hkk:keq e.key e1.key=true:=by have:=List.find?_some hf;simpa using this
  have hke:e.key=e1.key:=(keq_eq hk (h6 e1 he1)).1 hkk
  have:e1=e:=by
   obtain⟨i,hi⟩:=List.mem_iff_getElem?.1 he1
   obtain⟨j,hj⟩:=List.mem_iff_getElem?.1 he
   have hij:i=j:=by
    have hil:i<(es.toList.map (·.key)).length:=by rw[List.length_map];exact(List.getElem?_eq_some_iff.1 hi).1
    refine(List.getElem?_inj hil hs.2.2).1 ?_
    rw[List.getElem?_map,List.getElem?_map,hi,hj]
    simp[hke]
   subst hij
   rw[hi]at hj
   exact Option.some.inj hj
  subst this
  exact h
end Go.X
namespace Go.X
open Go Go.Proofs
def r20_0:List XOper:=[⟨(some 2),.op (.new [(.int .i64 0),(.int .i64 0),(.int .i64 0),(.int .i64 0),(.int .i64 0)]),none⟩,
 ⟨(some 3),.op (.mv (.const (.int .i64 0))),none⟩]
def r20_1:List XOper:=[⟨(some 18),.callF 43 [],none⟩]
def r20_2:List XOper:=[⟨(some 21),.op (.ext (.tmp 20) 0),none⟩]
def r20_3:List XOper:=[⟨(some 23),.op (.ext (.tmp 22) 0),none⟩,
 ⟨(some 24),.op (.ext (.tmp 22) 1),none⟩,
 ⟨(some 5),.op (.new [(.int .u8 0),(.int .u32 0),(.int .u32 0),(.int .u32 0)]),none⟩,
 ⟨(some 4),.op (.mv (.tmp 23)),none⟩,
 ⟨none,.op (.store 4 (.tmp 5) (.tmp 24)),none⟩]
def y20_0:List XOper:=[⟨(some 25),.op (.faddr 1 (.tmp 5)),none⟩,
 ⟨(some 26),.op (.faddr 0 (.tmp 25)),none⟩,
 ⟨(some 27),.op (.load (.int .u32) 1 (.tmp 26)),none⟩,
 ⟨(some 28),.op (.mv (.tmp 0)),none⟩,
 ⟨(some 29),.op (.bin .and (.tmp 28) (.const (.int .u32 127))),none⟩,
 ⟨(some 30),.op (.bin .neq (.tmp 27) (.tmp 29)),none⟩]
def y20_1:XCode:=.cnd (.tmp 30) (.exit 1) .skip
def y20_2:XCode:=.seq (.region y20_0) y20_1
def y20_3:List XOper:=[⟨(some 31),.op (.mv (.tmp 4)),none⟩,
 ⟨(some 32),.op (.build [(.int .i64 0),(.int .i64 0),(.int .i64 0),(.int .i64 0),(.int .i64 0)] [(0,1,(.tmp 31))]),none⟩,
 ⟨(some 6),.op (.new [(.int .i64 0),(.int .i64 0),(.int .i64 0),(.int .i64 0),(.int .i64 0)]),none⟩,
 ⟨none,.op (.store 5 (.tmp 6) (.tmp 32)),none⟩]
def y20_4:List XOper:=[⟨(some 33),.op (.faddr 0 (.tmp 5)),none⟩,
 ⟨(some 34),.op (.load (.int .u8) 1 (.tmp 33)),none⟩,
 ⟨(some 35),.callF 45 [(.tmp 34)],none⟩,
 ⟨(some 7),.op (.new [(.bool false),(.bool false),(.bool false)]),none⟩,
 ⟨none,.op (.store 3 (.tmp 7) (.tmp 35)),none⟩]
def y20_5:List XOper:=[⟨(some 36),.op (.faddr 1 (.tmp 6)),none⟩,
 ⟨(some 37),.op (.faddr 2 (.tmp 6)),none⟩,
 ⟨(some 38),.op (.faddr 3 (.tmp 6)),none⟩,
 ⟨(some 39),.op (.build [(.pointer none),(.pointer none),(.pointer none)] [(0,1,(.tmp 36)),(1,1,(.tmp 37)),(2,1,(.tmp 38))]),none⟩,
 ⟨(some 40),.op (.mv (.const (.int .i64 0))),none⟩]
def y20_6:List XOper:=[⟨(some 41),.op (.bin .lss (.tmp 40) (.const (.int .i64 3))),none⟩]
def y20_7:XCode:=.cnd (.tmp 41) .skip (.exit 2)
def y20_8:List XOper:=[⟨(some 42),.op (.mv (.tmp 40)),none⟩,
 ⟨(some 43),.op (.idxA 3 1 .one (.tmp 39) (.tmp 40)),none⟩,
 ⟨(some 8),.op (.mv (.tmp 42)),none⟩,
 ⟨(some 9),.op (.mv (.tmp 43)),none⟩]
def y20_9:List XOper:=[⟨(some 44),.op (.mv (.tmp 8)),none⟩,
 ⟨(some 45),.op (.iaddrA true 3 1 (.tmp 7) (.tmp 44)),none⟩,
 ⟨(some 46),.op (.load .bool 1 (.tmp 45)),none⟩]
def y20_10:List XOper:=[⟨(some 47),.op (.mv (.tmp 9)),none⟩,
 ⟨(some 48),.op (.mv (.tmp 0)),none⟩,
 ⟨(some 49),.op (.build [(.int .u64 0),(.int .u64 0),(.int .u64 0)] [(0,1,(.const (.int .u64 7))),(1,1,(.const (.int .u64 15))),(2,1,(.const (.int .u64 20)))]),none⟩,
 ⟨(some 50),.op (.mv (.tmp 8)),none⟩,
 ⟨(some 51),.op (.idxA 3 1 (.int .u64) (.tmp 49) (.tmp 50)),none⟩,
 ⟨(some 52),.op (.bin .shr (.tmp 48) (.tmp 51)),none⟩,
 ⟨(some 53),.op (.bin .and (.tmp 52) (.const (.int .u32 31))),none⟩,
 ⟨(some 54),.op (.conv .i64 (.tmp 53)),none⟩,
 ⟨(some 55),.op (.nilck (.tmp 47)),none⟩,
 ⟨none,.op (.store 1 (.tmp 55) (.tmp 54)),none⟩]
def y20_11:XCode:=.cnd (.tmp 46) (.region y20_10) .skip
def y20_12:XCode:=.seq (.region y20_9) y20_11
def y20_13:XCode:=.seq (.region y20_8) y20_12
def y20_14:XCode:=.block 3 y20_13
def y20_15:List XOper:=[⟨(some 56),.op (.bin .add (.tmp 40) (.const (.int .i64 1))),none⟩,
 ⟨(some 40),.op (.mv (.tmp 56)),none⟩]
def y20_16:XCode:=.seq y20_14 (.region y20_15)
def y20_17:XCode:=.seq y20_7 y20_16
def y20_18:XCode:=.seq (.region y20_6) y20_17
def y20_19:XCode:=.loop y20_18
def y20_20:XCode:=.block 2 y20_19
def y20_21:XCode:=.seq (.region y20_5) y20_20
def y20_22:List XOper:=[⟨(some 57),.op (.faddr 0 (.tmp 5)),none⟩,
 ⟨(some 58),.op (.load (.int .u8) 1 (.tmp 57)),none⟩,
 ⟨(some 59),.callF 46 [(.tmp 58)],none⟩,
 ⟨(some 60),.op (.lenS (.tmp 59)),none⟩,
 ⟨(some 61),.op (.mv (.const (.int .i64 0))),none⟩]
def y20_23:List XOper:=[⟨(some 62),.op (.bin .lss (.tmp 61) (.tmp 60)),none⟩]
def y20_24:XCode:=.cnd (.tmp 62) .skip (.exit 4)
def y20_25:List XOper:=[⟨(some 63),.op (.iaddrS 3 (.tmp 59) (.tmp 61)),none⟩,
 ⟨(some 64),.op (.load .agg 3 (.tmp 63)),none⟩,
 ⟨(some 11),.op (.new [(.int .u64 0),(.int .u64 0),(.int .u64 0)]),none⟩,
 ⟨none,.op (.store 3 (.tmp 11) (.tmp 64)),none⟩]
def y20_26:List XOper:=[⟨(some 65),.op (.faddr 4 (.tmp 6)),none⟩,
 ⟨(some 66),.op (.load (.int .i64) 1 (.tmp 65)),none⟩,
 ⟨(some 67),.op (.mv (.tmp 0)),none⟩,
 ⟨(some 68),.op (.faddr 2 (.tmp 11)),none⟩,
 ⟨(some 69),.op (.load (.int .u64) 1 (.tmp 68)),none⟩,
 ⟨(some 70),.op (.bin .shr (.tmp 67) (.tmp 69)),none⟩,
 ⟨(some 71),.op (.faddr 1 (.tmp 11)),none⟩,
 ⟨(some 72),.op (.load (.int .u64) 1 (.tmp 71)),none⟩,
 ⟨(some 73),.op (.bin .shl (.const (.int .u32 1)) (.tmp 72)),none⟩,
 ⟨(some 74),.op (.bin .sub (.tmp 73) (.const (.int .u32 1))),none⟩,
 ⟨(some 75),.op (.bin .and (.tmp 70) (.tmp 74)),none⟩,
 ⟨(some 76),.op (.conv .i64 (.tmp 75)),none⟩,
 ⟨(some 77),.op (.faddr 0 (.tmp 11)),none⟩,
 ⟨(some 78),.op (.load (.int .u64) 1 (.tmp 77)),none⟩,
 ⟨(some 79),.op (.bin .shl (.tmp 76) (.tmp 78)),none⟩,
 ⟨(some 80),.op (.bin .or (.tmp 66) (.tmp 79)),none⟩,
 ⟨(some 81),.op (.faddr 4 (.tmp 6)),none⟩,
 ⟨none,.op (.store 1 (.tmp 81) (.tmp 80)),none⟩]
def y20_27:XCode:=.seq (.region y20_25) (.region y20_26)
def y20_28:XCode:=.block 5 y20_27
def y20_29:List XOper:=[⟨(some 82),.op (.bin .add (.tmp 61) (.const (.int .i64 1))),none⟩,
 ⟨(some 61),.op (.mv (.tmp 82)),none⟩]
def y20_30:XCode:=.seq y20_28 (.region y20_29)
def y20_31:XCode:=.seq y20_24 y20_30
def y20_32:XCode:=.seq (.region y20_23) y20_31
def y20_33:XCode:=.loop y20_32
def y20_34:XCode:=.block 4 y20_33
def y20_35:XCode:=.seq (.region y20_22) y20_34
def y20_36:List XOper:=[⟨(some 84),.op (.faddr 0 (.tmp 5)),none⟩,
 ⟨(some 85),.op (.load (.int .u8) 1 (.tmp 84)),none⟩,
 ⟨(some 86),.callF 44 [(.tmp 85)],none⟩,
 ⟨(some 83),.op (.mv (.tmp 86)),none⟩,
 ⟨(some 87),.op (.ext (.tmp 83) 0),none⟩,
 ⟨(some 88),.op (.ext (.tmp 83) 1),none⟩,
 ⟨(some 12),.op (.mv (.tmp 87)),none⟩,
 ⟨(some 13),.op (.mv (.tmp 88)),none⟩]
def y20_37:List XOper:=[⟨(some 89),.op (.faddr 0 (.tmp 5)),none⟩,
 ⟨(some 90),.op (.load (.int .u8) 1 (.tmp 89)),none⟩,
 ⟨(some 91),.op (.bin .neq (.tmp 90) (.const (.int .u8 84))),none⟩,
 ⟨(some 92),.op (.mv (.tmp 91)),none⟩,
 ⟨(some 93),.op (.faddr 4 (.tmp 6)),(some (92,true))⟩,
 ⟨(some 94),.op (.load (.int .i64) 1 (.tmp 93)),(some (92,true))⟩,
 ⟨(some 95),.op (.mv (.tmp 13)),(some (92,true))⟩,
 ⟨(some 96),.op (.bin .gtr (.tmp 94) (.tmp 95)),(some (92,true))⟩,
 ⟨(some 97),.pick (.tmp 92) (.tmp 96) (.const (.bool false)),none⟩]
def y20_38:List XOper:=[⟨(some 99),.op (.faddr 0 (.tmp 5)),none⟩,
 ⟨(some 100),.op (.load (.int .u8) 1 (.tmp 99)),none⟩,
 ⟨(some 101),.callF 44 [(.tmp 100)],none⟩,
 ⟨(some 98),.op (.mv (.tmp 101)),none⟩,
 ⟨(some 102),.op (.ext (.tmp 98) 0),none⟩,
 ⟨(some 103),.op (.ext (.tmp 98) 1),none⟩,
 ⟨(some 14),.op (.mv (.tmp 102)),none⟩,
 ⟨(some 15),.op (.mv (.tmp 103)),none⟩]
def y20_39:List XOper:=[⟨(some 104),.op (.faddr 4 (.tmp 6)),none⟩,
 ⟨(some 105),.op (.load (.int .i64) 1 (.tmp 104)),none⟩,
 ⟨(some 106),.op (.mv (.tmp 14)),none⟩,
 ⟨(some 107),.op (.bin .mul (.const (.int .i64 2)) (.tmp 106)),none⟩,
 ⟨(some 108),.op (.bin .add (.tmp 105) (.tmp 107)),none⟩,
 ⟨(some 109),.op (.faddr 4 (.tmp 6)),none⟩,
 ⟨none,.op (.store 1 (.tmp 109) (.tmp 108)),none⟩]
def y20_40:XCode:=.seq (.region y20_38) (.region y20_39)
def y20_41:XCode:=.cnd (.tmp 97) y20_40 .skip
def y20_42:XCode:=.seq (.region y20_37) y20_41
def y20_43:XCode:=.seq (.region y20_36) y20_42
def y20_44:List XOper:=[⟨(some 111),.op (.load .agg 5 (.tmp 6)),none⟩,
 ⟨(some 112),.callF 18 [(.tmp 111)],none⟩,
 ⟨(some 110),.op (.mv (.tmp 112)),none⟩,
 ⟨(some 113),.op (.ext (.tmp 110) 0),none⟩,
 ⟨(some 114),.op (.ext (.tmp 110) 1),none⟩,
 ⟨(some 16),.op (.mv (.tmp 113)),none⟩,
 ⟨(some 17),.op (.mv (.tmp 114)),none⟩]
def y20_45:List XOper:=[⟨(some 115),.op (.mv (.tmp 17)),none⟩,
 ⟨(some 116),.op (.bin .eql (.tmp 115) (.const (.int .i64 0))),none⟩,
 ⟨(some 117),.op (.mv (.tmp 116)),none⟩,
 ⟨(some 118),.op (.mv (.tmp 16)),(some (117,true))⟩,
 ⟨(some 119),.op (.mv (.tmp 0)),(some (117,true))⟩,
 ⟨(some 120),.op (.bin .eql (.tmp 118) (.tmp 119)),(some (117,true))⟩,
 ⟨(some 121),.pick (.tmp 117) (.tmp 120) (.const (.bool false)),none⟩]
def y20_46:List XOper:=[⟨(some 122),.op (.load .agg 5 (.tmp 6)),none⟩,
 ⟨none,.op (.store 5 (.tmp 2) (.tmp 122)),none⟩,
 ⟨(some 3),.op (.mv (.const (.int .i64 0))),none⟩]
def y20_47:XCode:=.seq (.region y20_46) .ret
def y20_48:XCode:=.cnd (.tmp 121) y20_47 .skip
def y20_49:XCode:=.seq (.region y20_45) y20_48
def y20_50:XCode:=.seq (.region y20_44) y20_49
def y20_51:XCode:=.seq y20_43 y20_50
def y20_52:XCode:=.seq y20_35 y20_51
def y20_53:XCode:=.seq y20_21 y20_52
def y20_54:XCode:=.seq (.region y20_4) y20_53
def y20_55:XCode:=.seq (.region y20_3) y20_54
def y20_56:XCode:=.seq y20_2 y20_55
def y20:XCode:=y20_56
def z20_0:List XOper:=[⟨(some 123),.op (.build [(.int .i64 0),(.int .i64 0),(.int .i64 0),(.int .i64 0),(.int .i64 0)] []),none⟩,
 ⟨none,.op (.store 5 (.tmp 2) (.tmp 123)),none⟩,
 ⟨(some 3),.op (.mv (.const (.int .i64 2))),none⟩]
def z20_1:XCode:=.seq (.region z20_0) .ret
def z20:XCode:=z20_1
def rts20:List Rx:=[(2,(some (.agg,5))),(3,none)]
noncomputable def ops20_0:Array Oper:=opsC (fstC body20)
noncomputable def ops20_1:Array Oper:=opsC (fstC mid20)
noncomputable def ops20_2:Array Oper:=opsC (fstC round20)
noncomputable def ops20_3:Array Oper:=opsC (fstC (inC (sndC (sndC round20))))
noncomputable def rest20:Code:=sndC (inC (sndC (sndC round20)))
noncomputable def tail20:Code:=sndC (sndC body20)
theorem shape3:body20=.seq (.region 0 ops20_0 false) (.seq (.seq (.region 1 ops20_1 false) (.block 0 (.loop round20))) tail20):=by kernel_rfl
theorem shape4:round20=.seq (.region 2 ops20_2 false) (.seq (.cond (.tmp 21) .skip (.exit 0)) (.block 1 (.seq (.region 3 ops20_3 false) rest20))):=by kernel_rfl
theorem comp20_0:comp Try.prog 124 (.region 0 ops20_0 false)=some (.region r20_0):=by kernel_rfl
theorem comp20_r:comp Try.prog 124 rest20=some y20:=by kernel_rfl
theorem comp20_t:comp Try.prog 124 tail20=some z20:=by kernel_rfl
def opIs (o:Option Oper):Option (Option Nat × Op × Option (Nat × Bool)):=match o with
 |some o=>some (o.dst,o.op,o.guard)
 |none=>none
theorem op20_1:opIs ops20_1[1]?=some (some 19,.range 106 (.tmp 18),none):=by kernel_rfl
theorem op20_2:opIs ops20_2[0]?=some (some 20,.next (.tmp 19) false,none):=by kernel_rfl
theorem op20_3:opIs ops20_3[0]?=some (some 22,.entry (.tmp 19),none):=by kernel_rfl
theorem opIs_some {o:Option Oper}{d:Option Nat}{p:Op}{g:Option (Nat × Bool)} (h:opIs o=some (d,p,g)):∃ x,o=some x/\x.dst=d/\x.op=p/\x.guard=g:=by
 cases o with
 |none=>cases h
 |some x=>simp only[opIs,Option.some.injEq,Prod.mk.injEq]at h;exact⟨x,rfl,h.1,h.2.1,h.2.2⟩
theorem size20:ops20_1.size=2/\ops20_2.size=2/\ops20_3.size=6:=by refine⟨?_,?_,?_⟩<;>kernel_rfl
def CmpAt (P:Program) (N:Nat) (ops:Array Oper):Nat->List XOper->Prop
 |_,[]=>True
 |i,x :: l=>(match ops[i]? with
  |some o=>compOper P N ops o
  |none=>none)=some x/\CmpAt P N ops (i+1) l
theorem cmpAt_get {P:Program}{N:Nat}{ops:Array Oper}:∀ {l:List XOper}{i:Nat},CmpAt P N ops i l->∀ (k:Nat) xo,l[k]?=some xo->∃ o,ops[i+k]?=some o/\compOper P N ops o=some xo
 |[],i,_,k,xo,hk=>by simp at hk
 |x :: l,i,h,0,xo,hk=>by
  simp only[List.getElem?_cons_zero,Option.some.injEq]at hk
  subst hk
  have h1:=h.1
  split at h1
  ·rename_i o ho;exact⟨o,ho,h1⟩
  ·cases h1
 |x :: l,i,h,k+1,xo,hk=>by
  obtain⟨o,ho,hc⟩:=cmpAt_get h.2 k xo (by simpa using hk)
  exact⟨o,by rw[<- ho];congr 1;omega,hc⟩
theorem cmp20_1:CmpAt Try.prog 124 ops20_1 0 r20_1:=by refine⟨?_,trivial⟩;kernel_rfl
theorem cmp20_2:CmpAt Try.prog 124 ops20_2 1 r20_2:=by refine⟨?_,trivial⟩;kernel_rfl
theorem cmp20_3:CmpAt Try.prog 124 ops20_3 1 r20_3:=by refine⟨?_,?_,?_,?_,?_,trivial⟩<;>kernel_rfl
def fW (w d m:Int):Int:=IntKind.i64.wrap (bits2 .and .u32 (w.fdiv d) m)
def pW (w d m k:Int):Int:=IntKind.i64.wrap (fW w d m*k)
def oW (a b:Int):Int:=bits2 .or .i64 a b
def fixW (x most less:Int):Int:=bif decide (x>most)then IntKind.i64.wrap (x+less)else x
structure Cand where
 rd:Int
 rs1:Int
 rs2:Int
 imm:Int
def candF (F w:Int):Cand :=
 match F with
 |82=>⟨fW w 128 31,fW w 32768 31,fW w 1048576 31,0⟩
 |73=>⟨fW w 128 31,fW w 32768 31,0,fixW (oW 0 (pW w 1048576 4095 1)) 2047 (-4096)⟩
 |84=>⟨fW w 128 31,fW w 32768 31,0,oW 0 (pW w 1048576 63 1)⟩
 |83=>⟨0,fW w 32768 31,fW w 1048576 31,fixW (oW (oW 0 (pW w 128 31 1)) (pW w 33554432 127 32)) 2047 (-4096)⟩
 |66=>⟨0,fW w 32768 31,fW w 1048576 31,fixW (oW (oW (oW (oW 0 (pW w 128 1 2048)) (pW w 256 15 2)) (pW w 33554432 63 32)) (pW w 2147483648 1 4096)) 4094 (-8192)⟩
 |85=>⟨fW w 128 31,0,0,fixW (oW 0 (pW w 4096 1048575 1)) 524287 (-1048576)⟩
 |74=>⟨fW w 128 31,0,0,fixW (oW (oW (oW (oW 0 (pW w 4096 255 4096)) (pW w 1048576 1 2048)) (pW w 2097152 1023 2)) (pW w 2147483648 1 1048576)) 1048574 (-2097152)⟩
 |_=>⟨0,0,0,0⟩
def var0:Blk:=.var [.int .i64 0,.int .i64 0,.int .i64 0,.int .i64 0,.int .i64 0]
def tA (q w:Int):Tm:=mkT [0,2,3,19,4,5] [.int .u32 w,.pointer (some ⟨100,0,some 0⟩),.int .i64 0,.pointer (some ⟨102,0,some 0⟩),.int .i64 q,.pointer (some ⟨103,0,some 0⟩)]
def hA (F o f3 f7:Int):Hp:=mkH [(100,var0),(103,.var [.int .u8 F,.int .u32 o,.int .u32 f3,.int .u32 f7])]
def leafA (q w:Int) (c:Cand) (n:Nat):Leaf:=⟨[some (true,.int .u32 w),some (true,.pointer (some ⟨100,0,some 0⟩)),some (true,.int .i64 0),some (true,.pointer (some ⟨102,0,some 0⟩)),some (true,.pointer (some ⟨104,0,some 0⟩))],
 [(100,some var0),(104,some (iB q c.rd c.rs1 c.rs2 c.imm))],.normal,n⟩
abbrev runA (q F o f3 f7 w:Int):Option Leaf:=execL (lookF FL) scB 1000 [.region y20_3,.region y20_4,y20_21,y20_35,y20_43] (tA q w) (hA F o f3 f7) 104 (prjK [0,2,3,19,6] [.id 100,.tmp 6])
theorem a20R (q o f3 f7 w:Int):runA q 82 o f3 f7 w=some (leafA q w (candF 82 w) 107):=by kernel_rfl
theorem a20T (q o f3 f7 w:Int):runA q 84 o f3 f7 w=some (leafA q w (candF 84 w) 109):=by kernel_rfl
theorem a20N (q o f3 f7 w:Int):runA q 78 o f3 f7 w=some (leafA q w (candF 78 w) 107):=by kernel_rfl
theorem fix_leaf (q w rd rs1 rs2 x most less:Int) (n:Nat):(bif decide (x>most)then some (leafA q w ⟨rd,rs1,rs2,IntKind.i64.wrap (x+less)⟩ n)else some (leafA q w ⟨rd,rs1,rs2,x⟩ n))=some (leafA q w ⟨rd,rs1,rs2,fixW x most less⟩ n):=by
 unfold fixW;cases decide (x>most)<;>rfl
theorem a20I (q o f3 f7 w:Int):runA q 73 o f3 f7 w=some (leafA q w (candF 73 w) 109):=by
 refine Eq.trans ?_ (fix_leaf q w (fW w 128 31) (fW w 32768 31) 0 (oW 0 (pW w 1048576 4095 1)) 2047 (-4096) 109)
 kernel_rfl
theorem a20S (q o f3 f7 w:Int):runA q 83 o f3 f7 w=some (leafA q w (candF 83 w) 110):=by
 refine Eq.trans ?_ (fix_leaf q w 0 (fW w 32768 31) (fW w 1048576 31) (oW (oW 0 (pW w 128 31 1)) (pW w 33554432 127 32)) 2047 (-4096) 110)
 kernel_rfl
theorem a20B (q o f3 f7 w:Int):runA q 66 o f3 f7 w=some (leafA q w (candF 66 w) 112):=by
 refine Eq.trans ?_ (fix_leaf q w 0 (fW w 32768 31) (fW w 1048576 31) (oW (oW (oW (oW 0 (pW w 128 1 2048)) (pW w 256 15 2)) (pW w 33554432 63 32)) (pW w 2147483648 1 4096)) 4094 (-8192) 112)
 kernel_rfl
theorem a20U (q o f3 f7 w:Int):runA q 85 o f3 f7 w=some (leafA q w (candF 85 w) 109):=by
 refine Eq.trans ?_ (fix_leaf q w (fW w 128 31) 0 0 (oW 0 (pW w 4096 1048575 1)) 524287 (-1048576) 109)
 kernel_rfl
theorem a20J (q o f3 f7 w:Int):runA q 74 o f3 f7 w=some (leafA q w (candF 74 w) 112):=by
 refine Eq.trans ?_ (fix_leaf q w (fW w 128 31) 0 0 (oW (oW (oW (oW 0 (pW w 4096 255 4096)) (pW w 1048576 1 2048)) (pW w 2097152 1023 2)) (pW w 2147483648 1 1048576)) 1048574 (-2097152) 112)
 kernel_rfl
def isForm (F:Int):Bool:=F==82||(F==73||(F==84||(F==83||(F==66||(F==85||(F==74||F==78))))))
theorem runA_is (q F o f3 f7 w:Int) (h:isForm F=true):∃ n,104<=n/\runA q F o f3 f7 w=some (leafA q w (candF F w) n):=by
 simp only[isForm,Bool.or_eq_true,beq_iff_eq]at h
 rcases h with rfl|rfl|rfl|rfl|rfl|rfl|rfl|rfl
 ·exact⟨_,by omega,a20R q o f3 f7 w⟩
 ·exact⟨_,by omega,a20I q o f3 f7 w⟩
 ·exact⟨_,by omega,a20T q o f3 f7 w⟩
 ·exact⟨_,by omega,a20S q o f3 f7 w⟩
 ·exact⟨_,by omega,a20B q o f3 f7 w⟩
 ·exact⟨_,by omega,a20U q o f3 f7 w⟩
 ·exact⟨_,by omega,a20J q o f3 f7 w⟩
 ·exact⟨_,by omega,a20N q o f3 f7 w⟩
def tB (w:Int):Tm:=mkT [0,2,3,19,6] [.int .u32 w,.pointer (some ⟨100,0,some 0⟩),.int .i64 0,.pointer (some ⟨102,0,some 0⟩),.pointer (some ⟨103,0,some 0⟩)]
def hB (q:Int) (c:Cand):Hp:=mkH [(100,var0),(103,iB q c.rd c.rs1 c.rs2 c.imm)]
open Go.ChangeMaps (setBlock)
theorem ops_run {E:FEnv}{F:Fns}{sc:Short} (hF:FnsOK E.P F sc) (k:Nat){ops:Array Oper}{l:List XOper}{i:Nat}{s:St}{t:Tm}{h:Hp}{n:Nat}{ok:Bool}{pr:Prop}{tr:List Foot} (hc:CmpAt E.P E.N ops i l)
  (hx:xrun (callE F sc (exec F sc k [])) [] l i s.t s.h s.n true True []=some ⟨t,h,n,ok,pr,tr⟩) (hok:ok=true){Q:Exit->Act->World->Prop}{a:Act}{w:World} (hr:E.rel s a w)
  (hQ:∀ a' w',E.rel ⟨t,h,n⟩ a' w'->Q .normal a' w'):wpOps E.P ops Q (List.range' i l.length) a w:=by
 have hce:CEok E.P (callE F sc (exec F sc k [])):=callE_ok hF (exec_sound hF k)
 have hpr:=xrun_pr callE_pr hx trivial
 obtain⟨rs,h1,h2,h3,h4,h5⟩:=xrun_recs hce hx hok hpr
 simp only at h2 h3 h4
 subst h2;subst h3;subst h4
 exact region_plain hce l i rs s a w (cmpAt_get hc) h1 (fun id h1 _=>E.dom id (Nat.le_trans hr.1 h1)) ⟨_,Nat.le_refl _,E.dom _ (Nat.le_trans hr.1 (newsOf_le rs s.n))⟩ hr hQ
theorem core_comp {P:Program}{N:Nat}{B:Base}{n:Nat}{ρ ρ1:Rn}{t t1:Tm}{g g1:G}{a a1:Act}{w w1:World} (hn:B.n<=n) (hc:Core P N B ρ t g a w) (c1:Core P N ⟨ρ,n,Own ρ g,w⟩ ρ1 t1 g1 a1 w1):Core P N B ρ1 t1 g1 a1 w1 where
 tm:=c1.tm
 sz:=c1.sz
 df:=c1.df
 rel:=c1.rel
 fr:=hc.fr.then c1.fr fun i hi ho=>by
  rcases hc.own i ho with h|h
  ·exact h
  ·omega
 own:=fun k hk=>by
  rcases c1.own k hk with h|h
  ·exact hc.own k h
  ·exact .inr (Nat.le_trans hc.fr.size h)
 le:=hc.le.trans c1.le
 new:=fun id h0 h1=>by
  by_cases hx:ρ id=none
  ·exact Nat.le_trans hn (c1.new id hx h1)
  ·exact hc.new id h0 hx
theorem core_put {P:Program}{N:Nat}{B:Base}{ρ:Rn}{t:Tm}{g:G}{a:Act}{w:World}{d:Nat}{v c:Value} (h:Core P N B ρ t g a w) (hd:d<N) (hv:V ρ v c):Core P N B ρ ((d,true,v) :: t) g (a.put (some d) c) w where
 tm:=fun k b u hl=>by
  simp only[look]at hl
  cases hb:Nat.beq d k with
  |true =>
   rw[hb]at hl
   simp only[cond_true,Option.some.injEq,Prod.mk.injEq]at hl
   obtain⟨rfl,rfl⟩:=hl
   have e:=Nat.eq_of_beq_eq_true hb
   subst e
   have:d<a.tmps.size:=by rw[h.sz];exact hd
   exact⟨c,by simp[Act.put,this],fun _=>hv,fun e=>by cases e⟩
  |false =>
   rw[hb]at hl
   obtain⟨x,hx,hxv⟩:=h.tm k b u hl
   refine⟨x,?_,hxv⟩
   have:d≠k:=by rintro rfl;simp at hb
   simp[Act.put,Array.getElem?_setIfInBounds,this,hx]
 sz:=by rw[put_size];exact h.sz
 df:=by rw[put_defers];exact h.df
 rel:=h.rel
 fr:=h.fr
 own:=h.own
 le:=h.le
 new:=h.new
theorem setBlock_get (w:World) (r k:Nat) (o:Obj) (h:k≠r):(setBlock w r o).heap[k]?=w.heap[k]?:=by
 unfold setBlock
 simp[Array.getElem?_setIfInBounds,Ne.symm h]
theorem setBlock_same (w:World) (r:Nat) (o:Obj) (h:r<w.heap.size):(setBlock w r o).heap[r]?=some o:=by
 unfold setBlock
 simp[Array.getElem?_setIfInBounds,h]
theorem core_iter {P:Program}{N:Nat}{B:Base}{ρ:Rn}{t:Tm}{g:G}{a:Act}{w w1:World}{r:Nat}{o:Obj} (h:Core P N B ρ t g a w) (hr:B.w.heap.size<=r)
  (nr:∀ id b l,g id=some b->b.touch->ρ id=some l->l.addr.block≠r) (hw:w1=w\/w1=w.drew):Core P N B ρ t g a (setBlock w1 r o):=by
 have hh:w1.heap=w.heap:=by rcases hw with rfl|rfl<;>rfl
 have hk:∀ k,k≠r->(setBlock w1 r o).heap[k]?=w.heap[k]?:=fun k e=>by rw[setBlock_get _ _ _ _ e,hh]
 refine { h with rel:=⟨fun id b hb=>?_,h.rel.sep⟩,fr:=?_ }
 ·obtain⟨l,hl,hx⟩:=h.rel.holds id b hb
  exact⟨l,hl,hx.stay (Le.refl _) fun ht=>hk _ (nr id b l hb ht hl)⟩
 ·refine⟨?_,?_,?_,?_,fun k h1 h2=>?_⟩
  ·rcases hw with rfl|rfl<;>exact h.fr.os
  ·rcases hw with rfl|rfl<;>exact h.fr.tape
  ·rcases hw with rfl|rfl<;>exact h.fr.output
  ·have:(setBlock w1 r o).heap.size=w.heap.size:=by simp[setBlock,hh]
   rw[this];exact h.fr.size
  ·rw[hk k (by omega)];exact h.fr.block k h1 h2
def RI (E:FEnv) (S:St) (it r bm:Nat) (es:Array MapEntry) (clock:Nat) (T:MapEntry->Prop) (k:Nat) (a:Act) (w:World):Prop :=
 ∃ ρ seen,E.B.n<=S.n/\Core E.P E.N E.B ρ S.t (hget S.h) a w/\(∀ id,S.n<=id->ρ id=E.B.ρ id)/\ρ it=some ⟨⟨r,0,none⟩,0,0⟩/\w.heap[r]?=some (.mapIter (some bm) clock seen clock)/\w.heap[bm]?=some (.map es clock) /\
  (∀ id b l,hget S.h id=some b->b.touch->ρ id=some l->l.addr.block≠r)/\(∀ id b l,hget S.h id=some b->b.ro=false->ρ id=some l->l.addr.block≠bm)/\(leftOf es seen).size=k/\∀ x∈es.toList,seen.contains x.born=true->T x
def roundK (E:FEnv) (S:St) (T:MapEntry->Prop) (Qr:St->Prop) (cont:Nat) (e:MapEntry):Post:=fun e' s'=>((e'=.normal\/e'=.exit cont)/\T e/\Wk E.toEnv s' S)\/(e'=.ret/\∃ s2,Wk E.toEnv s' s2/\Qr s2)
def rsP:Option RS->Prop
 |some s=>s.pr
 |none=>True
def rsR:Option RS->List Foot
 |some s=>s.tr
 |none=>[]
end Go.X
