/- A part of the proof of ResumeBack. -/
import Derived.Test.YtiemfjdacfioeaaGreatDoorCaz
import Derived.Test.YtiemfjdacfioeaaGreatDoorCau
set_option maxRecDepth 100000
set_option maxHeartbeats 4000000
set_option linter.unusedVariables false
set_option linter.unusedSimpArgs false
namespace Go.Opn
noncomputable section
open Go.Cre Go.RowKit Go.Proofs
theorem Uq{P:Int->Prop}{l:List Int}{i:Nat}{x:Int}(U:l[i]?=some x)(aw:P x):∃w∈l,P w:=⟨x,cd U,aw⟩
section
variable {Q:dI Tryz.prog}{g0:Nat}{J:aI}
theorem am9{g:bz}{aT aL:Option Addr}{aQ ci:Nat}{x:cS}{bm bl b8:Option Addr}{bt bw dh:Nat}(ae:dG J (.slice bl x.ws.length bw) x.ws)(aG:dG J (.slice b8 x.fE.length dh) x.fE)(aw:g.pl<=4)(nN:addrEq aL aL=true)(gn:addrEq aT aT=true)(bd:addrEq bm bm=true):
 Fn (bb Q g0) 73 [hc g aT aQ aL ci,BV x bm bt bl bw b8 dh] [] J (fun u m' ag=>u=.int .i64 (ev g x)/\m'=[]/\J=ag):=by
 have a6:addrEq bl bl=true:=by obtain⟨e,h⟩:=ae;exact h.addr
 have b9:addrEq b8 b8=true:=by obtain⟨e,h⟩:=aG;exact h.addr
 have px:=ae.iB [];have Hz:=aG.iB [];refine Fn.cH (cQ Tryz.func73) rfl rfl fun H=>?_;refine rg ?_;refine dJ fun a2=>?_;refine dJ fun a3=>?_;refine I V.aA ?_;refine bj ?_;refine I V.bc ?_;refine I V.aF ?_;refine ns ?_;refine ab.block ?_;refine rg ?_;refine I V.a1 ?_;refine I V.aA ?_;refine ns ?_;refine If (fun dR=>?_) fun dR=>?_
 ·refine fT [3] ?_;refine aj ?_;refine' ab.ht 0 [(45,.bool (decide ((x.p≠0\/x.i≠0\/0<x.fE.length\/x.ak.length<1\/60<x.ak.length\/x.ws.length≠x.ak.length))))] ?tv ?tx;case tv=>
   refine ab.region ?_;refine I V.bc ?_;refine I V.aF ?_;refine I V.a1 ?_;refine I V.ah ?_;refine dq 14 (fun pq=>?_) fun pq=>?_
   ·refine al ?_;refine al ?_;refine al ?_;refine I V.aV ?_;refine I V.ah ?_;refine al ?_;refine al ?_;refine al ?_;refine al ?_;refine I V.aV ?_;refine I V.ah ?_;refine al ?_;refine al ?_;refine al ?_;refine al ?_;refine I V.aV ?_;refine I V.ah ?_;refine al ?_;refine al ?_;refine al ?_;refine al ?_;refine I V.aV ?_;refine I V.ah ?_;refine al ?_;refine al ?_;refine al ?_;refine al ?_;refine al ?_;refine al ?_;refine al ?_;refine I V.aV ?_;refine a8 ?_;exact ce
   ·refine aW V.bc ?_;refine aW V.aF ?_;refine aW V.a1 ?_;refine I V.aV ?_;refine I V.ah ?_;refine dq 19 (fun af3=>?_) fun af3=>?_
    ·refine al ?_;refine al ?_;refine al ?_;refine al ?_;refine I V.aV ?_;refine I V.ah ?_;refine al ?_;refine al ?_;refine al ?_;refine al ?_;refine I V.aV ?_;refine I V.ah ?_;refine al ?_;refine al ?_;refine al ?_;refine al ?_;refine I V.aV ?_;refine I V.ah ?_;refine al ?_;refine al ?_;refine al ?_;refine al ?_;refine al ?_;refine al ?_;refine al ?_;refine I V.aV ?_;refine a8 ?_;exact ce
    ·refine aW V.bc ?_;refine aW V.aF ?_;refine aW V.bP ?_;refine aW V.a1 ?_;refine I V.aV ?_;refine I V.ah ?_;refine dq 25 (fun afZ=>?_) fun afZ=>?_
     ·refine al ?_;refine al ?_;refine al ?_;refine al ?_;refine I V.aV ?_;refine I V.ah ?_;refine al ?_;refine al ?_;refine al ?_;refine al ?_;refine I V.aV ?_;refine I V.ah ?_;refine al ?_;refine al ?_;refine al ?_;refine al ?_;refine al ?_;refine al ?_;refine al ?_;refine I V.aV ?_;refine a8 ?_;exact ce
     ·refine aW V.bc ?_;refine aW V.aF ?_;refine aW V.bP ?_;refine aW V.a1 ?_;refine I V.aV ?_;refine I V.ah ?_;refine dq 31 (fun af0=>?_) fun af0=>?_
      ·
        refine al ?_;refine al ?_;refine al ?_;refine al ?_;refine I V.aV ?_;refine I V.ah ?_;refine al ?_;refine al ?_;refine al ?_;refine al ?_;refine al ?_;refine al ?_;refine al ?_;refine I V.aV ?_;refine a8 ?_;exact ce
      ·
        refine aW V.bc ?_;refine aW V.aF ?_;refine aW V.bP ?_;refine aW V.a1 ?_;refine I V.aV ?_;refine I V.ah ?_;refine dq 37 (fun af1=>?_) fun af1=>?_
        ·refine al ?_;refine al ?_;refine al ?_;refine al ?_;refine al ?_;refine al ?_;refine al ?_;refine I V.aV ?_;refine a8 ?_;exact ce
        ·refine aW V.bc ?_;refine aW V.aF ?_;refine aW V.bP ?_;refine aW V.bc ?_;refine aW V.aF ?_;refine aW V.bP ?_;refine aW V.a1 ?_;refine I V.aV ?_;refine a8 ?_;exact ce
  case tx=>
   refine aj ?_;refine If (fun k1=>?_) fun k1=>?_
   ·refine rg ?_;refine I V.aA ?_;refine ns ?_;refine ab.ret ?_;refine c' ?_;refine⟨cC (Value.int .i64) ?_,rfl,rfl⟩;unfold ev;first
     |(have c:=dR;rw[aE dR]
       first
           |(have c:=k1;rw[aE k1])
           |(have c:=bB;rw[ap k1,ap (by rintro⟨w,aa,ae⟩;rw[et (by omega)] at bB;exact bB w aa ae)]))
   ·refine aj ?_;refine ab.skip ?_;refine rg ?_;refine I V.aA ?_;refine ns ?_;refine ab.block ?_;refine' ab.c2 (l':=[(5,.int .i64 ((0):Int)),(3,_)]) ⟨?pR,rfl,trivial⟩ (bA _) ?_;case pR=>exact bS
    refine aj ?_;refine' ab.rG (α:=(Nat)) (fun(i:Nat)=>[(5,.int .i64 (i:Int))]) (fun(i:Nat)=>i<=x.ws.length/\∀w∈x.ws.take i,¬(w<1\/1000<w)) (fun(i:Nat)=>x.ws.length -i) (0) ?af ?bE;case af=>exact⟨cB _,fun x U=>by cases U⟩
    case bE=>
     rintro i hinv;try simp only at hinv
     obtain⟨ao,bB⟩:=hinv;refine rg ?_;refine aM ?_;refine I V.aF ?_;refine I V.bP ?_;refine I V.a1 ?_;refine ns ?_;refine If (fun jY=>?_) fun jY=>?_
     ·obtain⟨a,off,cells,rfl,k9,ec⟩:=px (by omega);obtain⟨w,hw,e0⟩:=ec i (by omega) (by omega);rw[cy] at hw;refine c5 ?_;refine aj ?_;refine ab.block ?_;refine fT [3,5] ?_;refine aj ?_;refine' ab.ht 0 [(66,.bool (decide ((w<1\/1000<w))))] ?ac2 ?adQ;case ac2=>
       refine ab.region ?_;refine I V.bc ?_;refine I V.aF ?_;refine I V.ah ?_;refine I V.aX ?_;refine' W.step rfl (Exec.val rfl rfl (gY rfl rfl ?ay (hp (eV rfl) ?az)) ?_);case ay=>exact k9.sub (fun _ q=>by cases q)
       case az=>first|rfl|assumption
       refine I V.a1 ?_;refine I V.ah ?_;refine dq 59 (fun agc=>?_) fun agc=>?_
       ·refine al ?_;refine al ?_;refine al ?_;refine al ?_;refine W.oL rfl rfl rfl rfl rfl ?_;refine al ?_;refine I V.aV ?_;refine a8 ?_;exact ce
       ·refine aW V.bc ?_;refine aW V.aF ?_;refine aW V.ah ?_;refine aW V.aX ?_;refine' W.rb rfl rfl rfl (Exec.val rfl rfl (gY rfl rfl ?ay (hp (eV rfl) ?az)) ?_);case ay=>exact k9.sub (fun _ q=>by cases q)
        case az=>first|rfl|assumption
        refine aW V.a1 ?_;refine I V.aV ?_;refine a8 ?_;exact ce
      case adQ=>
       refine aj ?_;refine If (fun C8=>?_) fun C8=>?_
       ·refine rg ?_;refine I V.aA ?_;refine ns ?_;refine ab.ret ?_;refine c' ?_;refine⟨cC (Value.int .i64) ?_,rfl,rfl⟩;unfold ev;first
         |(have c:=dR;rw[aE dR]
           first
               |(have c:=k1;rw[aE k1])
               |(have c:=C8;rw[ap k1,aE (Uq hw C8)])
               |(have c:=bB;rw[ap k1,ap (by rintro⟨w,aa,ae⟩;rw[et (by omega)] at bB;exact bB w aa ae)]))
       ·refine aj ?_;refine ab.skip ?_;refine rg ?_;refine I V.ah ?_;refine I V.bx ?_;refine I V.aA ?_;refine a8 ?_;refine'⟨(i+1),_,?hinv,?kw,rfl,⟨?m5,rfl,trivial⟩,bA _,rfl⟩;case m5=>exact bS
        case kw=>exact cf
        case hinv=>exact⟨by omega,sY bB hw C8⟩
     ·refine aj ?_;refine ab.exit ?_;refine rg ?_;refine I V.aA ?_;refine ns ?_;refine ab.ret ?_;refine c' ?_;refine⟨cC (Value.int .i64) ?_,rfl,rfl⟩;unfold ev;first
       |(have c:=dR;rw[aE dR]
         first
             |(have c:=k1;rw[aE k1])
             |(have c:=bB;rw[ap k1,ap (by rintro⟨w,aa,ae⟩;rw[et (by omega)] at bB;exact bB w aa ae)]))
 ·refine rg ?_;refine I V.a1 ?_;refine I V.aA ?_;refine ns ?_;refine If (fun n0=>?_) fun n0=>?_
  ·refine fT [2,3] ?_;refine aj ?_;refine' ab.ht 0 [(90,.bool (decide ((0<x.fE.length\/0<x.ws.length\/x.ak.length<1\/10<x.ak.length))))] ?acO ?adC;case acO=>
    refine ab.region ?_;refine I V.bc ?_;refine I V.aF ?_;refine I V.bP ?_;refine I V.a1 ?_;refine I V.ah ?_;refine dq 73 (fun afF=>?_) fun afF=>?_
    ·refine al ?_;refine al ?_;refine al ?_;refine al ?_;refine I V.aV ?_;refine I V.ah ?_;refine al ?_;refine al ?_;refine al ?_;refine al ?_;refine I V.aV ?_;refine I V.ah ?_;refine al ?_;refine al ?_;refine al ?_;refine al ?_;refine I V.aV ?_;refine a8 ?_;exact ce
    ·refine aW V.bc ?_;refine aW V.aF ?_;refine aW V.bP ?_;refine aW V.a1 ?_;refine I V.aV ?_;refine I V.ah ?_;refine dq 79 (fun afD=>?_) fun afD=>?_
     ·refine al ?_;refine al ?_;refine al ?_;refine al ?_;refine I V.aV ?_;refine I V.ah ?_;refine al ?_;refine al ?_;refine al ?_;refine al ?_;refine I V.aV ?_;refine a8 ?_;exact ce
     ·refine aW V.bc ?_;refine aW V.aF ?_;refine aW V.bP ?_;refine aW V.a1 ?_;refine I V.aV ?_;refine I V.ah ?_;refine dq 85 (fun afE=>?_) fun afE=>?_
      ·
        refine al ?_;refine al ?_;refine al ?_;refine al ?_;refine I V.aV ?_;refine a8 ?_;exact ce
      ·
        refine aW V.bc ?_;refine aW V.aF ?_;refine aW V.bP ?_;refine aW V.a1 ?_;refine I V.aV ?_;refine a8 ?_;exact ce
   case adC=>
    refine aj ?_;refine If (fun tq=>?_) fun tq=>?_
    ·refine rg ?_;refine I V.aA ?_;refine ns ?_;refine ab.ret ?_;refine c' ?_;refine⟨cC (Value.int .i64) ?_,rfl,rfl⟩;unfold ev;first
        |(have c:=dR;rw[aE dR]
          first
            |(have c:=bB;rw[ap k1,ap (by rintro⟨w,aa,ae⟩;rw[et (by omega)] at bB;exact bB w aa ae)]))
        |(have c:=n0;rw[ap dR,aE n0]
          first
            |(have c:=tq;rw[aE tq]))
    ·refine aj ?_;refine ab.skip ?_;refine fT [2,3] ?_;refine aj ?_;refine' ab.ht 2 [(113,.bool (decide ((x.p<0\/g.pl<=x.p\/x.i<0\/(g.is.length:Int)<=x.i))))] ?acQ ?adE;case acQ=>
      refine ab.region ?_;refine I V.bc ?_;refine I V.aF ?_;refine I V.a1 ?_;refine I V.ah ?_;refine dq 94 (fun afJ=>?_) fun afJ=>?_
      ·
        refine al ?_;refine al ?_;refine al ?_;refine al ?_;refine al ?_;refine I V.aV ?_;refine I V.ah ?_;refine al ?_;refine al ?_;refine al ?_;refine I V.aV ?_;refine I V.ah ?_;refine al ?_;refine al ?_;refine al ?_;refine al ?_;refine al ?_;refine al ?_;refine I V.aV ?_;refine a8 ?_;exact ce
      ·
        refine aW V.bc ?_;refine aW V.aF ?_;refine aW V.bc ?_;refine aW V.aF ?_;refine aW V.a1 ?_;refine I V.aV ?_;refine I V.ah ?_;refine dq 101 (fun afH=>?_) fun afH=>?_
        ·refine al ?_;refine al ?_;refine al ?_;refine I V.aV ?_;refine I V.ah ?_;refine al ?_;refine al ?_;refine al ?_;refine al ?_;refine al ?_;refine al ?_;refine I V.aV ?_;refine a8 ?_;exact ce
        ·refine aW V.bc ?_;refine aW V.aF ?_;refine aW V.a1 ?_;refine I V.aV ?_;refine I V.ah ?_;refine dq 106 (fun afI=>?_) fun afI=>?_
         ·refine al ?_;refine al ?_;refine al ?_;refine al ?_;refine al ?_;refine al ?_;refine I V.aV ?_;refine a8 ?_;exact ce
         ·refine aW V.bc ?_;refine aW V.aF ?_;refine aW V.bc ?_;refine aW V.aF ?_;refine aW V.bP ?_;refine aW V.a1 ?_;refine I V.aV ?_;refine a8 ?_;exact ce
     case adE=>
      refine aj ?_;refine If (fun wL=>?_) fun wL=>?_
      ·
        refine rg ?_;refine I V.aA ?_;refine ns ?_;refine ab.ret ?_;refine c' ?_;refine⟨cC (Value.int .i64) ?_,rfl,rfl⟩;unfold ev;first
         |(have c:=dR;rw[aE dR]
           first
               |(have c:=bB;rw[ap k1,ap (by rintro⟨w,aa,ae⟩;rw[et (by omega)] at bB;exact bB w aa ae)]))
         |(have c:=n0;rw[ap dR,aE n0]
           first
               |(have c:=tq;rw[aE tq])
               |(have c:=wL;rw[ap tq,aE wL])
               |(have c:=wL;rw[ap tq,ap wL]))
      ·
        refine aj ?_;refine ab.skip ?_;refine rg ?_;refine I V.aA ?_;refine ns ?_;refine ab.ret ?_;refine c' ?_;refine⟨cC (Value.int .i64) ?_,rfl,rfl⟩;unfold ev;first
         |(have c:=dR;rw[aE dR]
           first
               |(have c:=bB;rw[ap k1,ap (by rintro⟨w,aa,ae⟩;rw[et (by omega)] at bB;exact bB w aa ae)]))
         |(have c:=n0;rw[ap dR,aE n0]
           first
               |(have c:=tq;rw[aE tq])
               |(have c:=wL;rw[ap tq,aE wL])
               |(have c:=wL;rw[ap tq,ap wL]))
  ·refine rg ?_;refine I V.a1 ?_;refine I V.aA ?_;refine ns ?_;refine If (fun nX=>?_) fun nX=>?_
   ·refine fT [2,3] ?_;refine aj ?_;refine' ab.ht 1 [(143,.bool (decide ((x.p≠0\/x.i≠0\/0<x.ak.length\/0<x.ws.length\/(x.fE.length:Int)≠g.pl))))] ?acT ?adH;case acT=>
     refine ab.region ?_;refine I V.bc ?_;refine I V.aF ?_;refine I V.a1 ?_;refine I V.ah ?_;refine dq 119 (fun afO=>?_) fun afO=>?_
     ·refine al ?_;refine al ?_;refine al ?_;refine I V.aV ?_;refine I V.ah ?_;refine al ?_;refine al ?_;refine al ?_;refine al ?_;refine I V.aV ?_;refine I V.ah ?_;refine al ?_;refine al ?_;refine al ?_;refine al ?_;refine I V.aV ?_;refine I V.ah ?_;refine al ?_;refine al ?_;refine al ?_;refine al ?_;refine al ?_;refine al ?_;refine I V.aV ?_;refine a8 ?_;exact ce
     ·refine aW V.bc ?_;refine aW V.aF ?_;refine aW V.a1 ?_;refine I V.aV ?_;refine I V.ah ?_;refine dq 124 (fun afP=>?_) fun afP=>?_
      ·
        refine al ?_;refine al ?_;refine al ?_;refine al ?_;refine I V.aV ?_;refine I V.ah ?_;refine al ?_;refine al ?_;refine al ?_;refine al ?_;refine I V.aV ?_;refine I V.ah ?_;refine al ?_;refine al ?_;refine al ?_;refine al ?_;refine al ?_;refine al ?_;refine I V.aV ?_;refine a8 ?_;exact ce
      ·
        refine aW V.bc ?_;refine aW V.aF ?_;refine aW V.bP ?_;refine aW V.a1 ?_;refine I V.aV ?_;refine I V.ah ?_;refine dq 130 (fun afM=>?_) fun afM=>?_
        ·refine al ?_;refine al ?_;refine al ?_;refine al ?_;refine I V.aV ?_;refine I V.ah ?_;refine al ?_;refine al ?_;refine al ?_;refine al ?_;refine al ?_;refine al ?_;refine I V.aV ?_;refine a8 ?_;exact ce
        ·refine aW V.bc ?_;refine aW V.aF ?_;refine aW V.bP ?_;refine aW V.a1 ?_;refine I V.aV ?_;refine I V.ah ?_;refine dq 136 (fun afN=>?_) fun afN=>?_
         ·refine al ?_;refine al ?_;refine al ?_;refine al ?_;refine al ?_;refine al ?_;refine I V.aV ?_;refine a8 ?_;exact ce
         ·refine aW V.bc ?_;refine aW V.aF ?_;refine aW V.bP ?_;refine aW V.bc ?_;refine aW V.aF ?_;refine aW V.a1 ?_;refine I V.aV ?_;refine a8 ?_;exact ce
    case adH=>
     refine aj ?_;refine If (fun sa=>?_) fun sa=>?_
     ·refine rg ?_;refine I V.aA ?_;refine ns ?_;refine ab.ret ?_;refine c' ?_;refine⟨cC (Value.int .i64) ?_,rfl,rfl⟩;unfold ev;first
       |(have c:=dR;rw[aE dR]
         first
             |(have c:=bB;rw[ap k1,ap (by rintro⟨w,aa,ae⟩;rw[et (by omega)] at bB;exact bB w aa ae)]))
       |(have c:=nX;rw[ap dR,ap n0,aE nX]
         first
             |(have c:=sa;rw[aE sa])
             |(have c:=bB;rw[ap sa,ap (by rintro⟨w,aa,ae⟩;rw[et (by omega)] at bB;exact bB w aa ae)]))
       |(have c:=nX;rw[ap dR,ap n0,ap nX])
     ·refine aj ?_;refine ab.skip ?_;refine rg ?_;refine I V.aA ?_;refine ns ?_;refine ab.block ?_;refine' ab.c2 (l':=[(6,.int .i64 ((0):Int)),(3,_)]) ⟨?nn,rfl,trivial⟩ (bA _) ?_;case nn=>exact bS
      refine aj ?_;refine' ab.rG (α:=(Nat)) (fun(i:Nat)=>[(6,.int .i64 (i:Int))]) (fun(i:Nat)=>i<=x.fE.length/\∀w∈x.fE.take i,¬(w< -1000000\/1000000<w)) (fun(i:Nat)=>x.fE.length -i) (0) ?af ?bE;case af=>exact⟨cB _,fun x U=>by cases U⟩
      case bE=>
        rintro i hinv;try simp only at hinv
        obtain⟨ao,bB⟩:=hinv;refine rg ?_;refine aM ?_;refine I V.aF ?_;refine I V.bP ?_;refine I V.a1 ?_;refine ns ?_;refine If (fun MX=>?_) fun MX=>?_
        ·obtain⟨a,off,cells,rfl,k9,ec⟩:=Hz (by omega);obtain⟨w,hw,e0⟩:=ec i (by omega) (by omega);rw[cy] at hw;refine c5 ?_;refine aj ?_;refine ab.block ?_;refine fT [3,6] ?_;refine aj ?_;refine' ab.ht 0 [(164,.bool (decide ((w< -1000000\/1000000<w))))] ?acV ?adJ;case acV=>
          refine ab.region ?_;refine I V.bc ?_;refine I V.aF ?_;refine I V.ah ?_;refine I V.aX ?_;refine' W.step rfl (Exec.val rfl rfl (gY rfl rfl ?ay (hp (eV rfl) ?az)) ?_);case ay=>exact k9.sub (fun _ q=>by cases q)
          case az=>first|rfl|assumption
          refine I V.a1 ?_;refine I V.ah ?_;refine dq 157 (fun afV=>?_) fun afV=>?_
          ·refine al ?_;refine al ?_;refine al ?_;refine al ?_;refine W.oL rfl rfl rfl rfl rfl ?_;refine al ?_;refine I V.aV ?_;refine a8 ?_;exact ce
          ·refine aW V.bc ?_;refine aW V.aF ?_;refine aW V.ah ?_;refine aW V.aX ?_;refine' W.rb rfl rfl rfl (Exec.val rfl rfl (gY rfl rfl ?ay (hp (eV rfl) ?az)) ?_);case ay=>exact k9.sub (fun _ q=>by cases q)
           case az=>first|rfl|assumption
           refine aW V.a1 ?_;refine I V.aV ?_;refine a8 ?_;exact ce
         case adJ=>
          refine aj ?_;refine If (fun JQ=>?_) fun JQ=>?_
          ·refine rg ?_;refine I V.aA ?_;refine ns ?_;refine ab.ret ?_;refine c' ?_;refine⟨cC (Value.int .i64) ?_,rfl,rfl⟩;unfold ev;first
            |(have c:=dR;rw[aE dR]
              first
                  |(have c:=bB;rw[ap k1,ap (by rintro⟨w,aa,ae⟩;rw[et (by omega)] at bB;exact bB w aa ae)]))
            |(have c:=nX;rw[ap dR,ap n0,aE nX]
              first
                  |(have c:=sa;rw[aE sa])
                  |(have c:=JQ;rw[ap sa,aE (Uq hw JQ)])
                  |(have c:=bB;rw[ap sa,ap (by rintro⟨w,aa,ae⟩;rw[et (by omega)] at bB;exact bB w aa ae)]))
            |(have c:=nX;rw[ap dR,ap n0,ap nX])
          ·refine aj ?_;refine ab.skip ?_;refine rg ?_;refine I V.ah ?_;refine I V.bx ?_;refine I V.aA ?_;refine a8 ?_;refine'⟨(i+1),_,?hinv,?kw,rfl,⟨?m6,rfl,trivial⟩,bA _,rfl⟩;case m6=>exact bS
           case kw=>exact cf
           case hinv=>exact⟨by omega,sY bB hw JQ⟩
        ·refine aj ?_;refine ab.exit ?_;refine rg ?_;refine I V.aA ?_;refine ns ?_;refine ab.ret ?_;refine c' ?_;refine⟨cC (Value.int .i64) ?_,rfl,rfl⟩;unfold ev;first
          |(have c:=dR;rw[aE dR]
            first
                |(have c:=bB;rw[ap k1,ap (by rintro⟨w,aa,ae⟩;rw[et (by omega)] at bB;exact bB w aa ae)]))
          |(have c:=nX;rw[ap dR,ap n0,aE nX]
            first
                |(have c:=sa;rw[aE sa])
                |(have c:=bB;rw[ap sa,ap (by rintro⟨w,aa,ae⟩;rw[et (by omega)] at bB;exact bB w aa ae)]))
          |(have c:=nX;rw[ap dR,ap n0,ap nX])
   ·refine rg ?_;refine I V.aA ?_;refine ns ?_;refine ab.ret ?_;refine c' ?_;refine⟨cC (Value.int .i64) ?_,rfl,rfl⟩;unfold ev;first
     |(have c:=dR;rw[aE dR]
       first
           |(have c:=bB;rw[ap k1,ap (by rintro⟨w,aa,ae⟩;rw[et (by omega)] at bB;exact bB w aa ae)]))
     |(have c:=nX;rw[ap dR,ap n0,aE nX]
       first
           |(have c:=bB;rw[ap sa,ap (by rintro⟨w,aa,ae⟩;rw[et (by omega)] at bB;exact bB w aa ae)]))
     |(have c:=nX;rw[ap dR,ap n0,ap nX])
end
end
end Go.Opn
namespace Go.Opn
noncomputable section
open Go.Cre Go.RowKit
theorem NJ{α:Type}:∀{l:List (List α)} {j:Nat} {m:List α},l[j]?=some m->l.flatten.Perm (m++(l.eraseIdx j).flatten):=by
 intro l;induction l with
 |nil=>intro j m h;cases h
 |cons x r aK=>
  intro j m h;cases j with
  |zero=>simp at h;subst h;exact .refl _
  |succ j=>
   have:=aK (j:=j) (m:=m) (by simpa using h);show(x++r.flatten).Perm (m++(x++(r.eraseIdx j).flatten));refine(this.append_left x).trans ?_;rw[<-gH,<-gH];exact(hR).append_right _
theorem J'{α:Type}{l:List (List α)}{j:Nat}{m:List α}(h:j<l.length):(l.set j m).flatten.Perm (m++(l.eraseIdx j).flatten):=by
 have aa:(l.set j m)[j]?=some m:=by rw[kH];simp[h]
 have ae:=NJ aa;rwa [List.eraseIdx_set_eq] at ae
structure qK (e:TypeId) (gX:List (List Int)) (vs:List Value) (hX:List aO):Prop where
 lv:vs.length=gX.length
 zA:hX.length=gX.length
 at_:∀(j:Nat) (s:List Int) (v:Value) (m:aO),gX[j]?=some s->vs[j]?=some v->hX[j]?=some m->Acc e 1 v s.length (s.map (Value.int .i64)) m
theorem qK.init{e:TypeId}(n:Nat):qK e (List.replicate n []) (List.replicate n (.slice none 0 0)) (List.replicate n []):=by
 refine⟨by simp,by simp,fun j s v m aa ae aG=>?_⟩;rw[CM] at aa ae aG;split at aa
 ·rename_i q;rw[aE q] at ae aG;injection aa with aa;injection ae with ae;injection aG with aG
  subst aa;subst ae;subst aG;exact .nil
 ·cases aa
theorem Uz{α:Type}{n:Nat}:(List.replicate n ([]:List α)).flatten=[]:=by simp
theorem qK.get{e:TypeId}{gX:List (List Int)}{vs:List Value}{hX:List aO}(h:qK e gX vs hX){j:Nat}{s:List Int}(af:gX[j]?=some s):∃v m,vs[j]?=some v/\hX[j]?=some m/\Acc e 1 v s.length (s.map (Value.int .i64)) m:=by
 have ba:j<gX.length:=(dX.1 af).1;have aa:=de (l:=vs) (i:=j) (by rw[h.lv];exact ba);have ae:=de (l:=hX) (i:=j) (by rw[h.zA];exact ba);exact⟨_,_,aa,ae,h.at_ j s _ _ af aa ae⟩
theorem qK.set{e:TypeId}{gX:List (List Int)}{vs:List Value}{hX:List aO}(h:qK e gX vs hX){j:Nat}{s:List Int}{v:Value}{m:aO}(a':Acc e 1 v s.length (s.map (Value.int .i64)) m):qK e (gX.set j s) (vs.set j v) (hX.set j m):=by
 refine⟨by simp[h.lv],by simp[h.zA],fun i c3 v' m' aa ae aG=>?_⟩;rw[kH] at aa ae aG;split at aa
 ·rename_i q;subst q;rw[aE rfl] at ae aG;split at aa
  ·rename_i a6;rw[aE (by rw[h.lv];exact a6)] at ae;rw[aE (by rw[h.zA];exact a6)] at aG;injection aa with aa;injection ae with ae;injection aG with aG
   subst aa;subst ae;subst aG;exact a'
  ·cases aa
 ·rename_i q;rw[ap q] at ae aG;exact h.at_ i c3 v' m' aa ae aG
theorem CX{α:Type}{x y z:α}{sn aY E R:List α}(h:sn.Perm (aY++E)):(x::y::z::(sn++R)).Perm (aY++x::y::z::(E++R)):=by
 refine(((((h.append_right R).cons z).cons y).cons x)).trans ?_;rw[gH];exact LB
section
variable {K:eL}{B:ea}{E:cn}{m m0:aO}{J:aI}{c0:Exit->cn->aO->aI->Prop}
theorem ab.Yk{c:Code}{e:TypeId}:∀{hX:List aO} {gX:List (List Int)} {vs:List Value} {m m0:aO} {J:aI},qK e gX vs hX->m.Perm (hX.flatten++m0)->
 (∀ag,J.le ag->(∀(j:Nat) (s:List Int) (v:Value),gX[j]?=some s->vs[j]?=some v->hL ag e 1 v s.length (s.map (Value.int .i64)))->ab K B c E m0 ag c0)->ab K B c E m J c0:=by
 intro hX;induction hX with
 |nil=>
  intro gX vs m m0 J h hm aU;refine ab.gB hm.symm (aU J (aI.le.refl _) fun j s v af az=>?_);have:gX=[]:=s9.1 h.zA.symm;subst this;cases af
 |cons aY r aK=>
  intro gX vs m m0 J h hm aU;cases gX with
  |nil=>have:=h.zA;cases this
  |cons s gX=>
   cases vs with
   |nil=>have:=h.lv;cases this
   |cons v vs=>
    have a':=h.at_ 0 s v aY rfl rfl rfl;have ay:qK e gX vs r:=⟨by simpa using h.lv,by simpa using h.zA,fun j c3 v' m' aa ae aG=>h.at_ (j+1) c3 v' m' (by simpa using aa) (by simpa using ae) (by simpa using aG)⟩;refine a'.hx (m0:=r.flatten++m0) (by rw[<-gH];exact hm) fun dQ ck k'=>?_;refine aK ay (.refl _) fun eZ cE bB=>?_;refine aU eZ (ck.trans cE) fun j c3 v' aa ae=>?_;cases j with
    |zero=>simp at aa ae;subst aa;subst ae;exact k'.mono cE
    |succ j=>exact bB j c3 v' (by simpa using aa) (by simpa using ae)
end
def jI(J:aI)(s:List Int)(cs:List Value):Prop:=∃b c,cs=[.slice b s.length c]/\dG J (.slice b s.length c) s
theorem jI.mono{J ag:aI}(hle:J.le ag){s:List Int}{cs:List Value}(h:jI J s cs):jI ag s cs:=by
 obtain⟨b,c,aa,ae⟩:=h;exact⟨b,c,aa,ae.mono hle⟩
theorem Ua{J:aI}{e Uf:TypeId}{a:Nat}{gX:List (List Int)}{vs:List Value}(h:J a=some (vs,e))(av:vs.length=gX.length)(aH:gX.length<c9)(bB:∀(j:Nat) (s:List Int) (v:Value),gX[j]?=some s->vs[j]?=some v->hL J Uf 1 v s.length (s.map (Value.int .i64))):fa J e 1 (jI J) (.slice (some ⟨a,0,none⟩) gX.length gX.length) gX:=by
 refine⟨vs,.row h (by rw[mP,et (by omega)]) (by omega) (fun _=>⟨cZ _,aH⟩) (fun _=>rfl),fun i s af=>?_⟩;have ao:i<vs.length:=by rw[av];exact(dX.1 af).1
 have az:=de ao;have aa:=bB i s _ af az;obtain⟨b,c,ae,_⟩:=aa.inv;rw[At,mO ao,Mv,Jt,ae];rw[ae] at aa;exact⟨b,c,rfl,Uf,aa⟩
end
end Go.Opn
namespace Go.Opn
noncomputable section
open Go.Cre Go.RowKit Go.Proofs
def qH(g:bz)(i:Nat):List (List Int):=(List.range g.is.length).map fun(j:Nat)=>eJ (j:Int) 0 (g.ns.take i)
theorem zV{g:bz}{i:Nat}:(qH g i).length=g.is.length:=by simp[qH]
theorem IM{g:bz}{i j:Nat}(h:j<g.is.length):(qH g i)[j]?=some (eJ (j:Int) 0 (g.ns.take i)):=by
 unfold qH;rw[pb,Fv h];rfl
theorem Y3{g:bz}:qH g 0=List.replicate g.is.length []:=by
 apply lp
 intro j;by_cases ba:j<g.is.length
 ·rw[IM ba,CM,aE ba];rfl
 ·rw[fx (by rw[zV];omega),CM,ap ba]
theorem Y0{g:bz}:qH g g.ns.length=gC g:=by unfold qH gC;rw[qV]
theorem anr{j:Int}{x:cS}:∀{l:List cS} {n:Nat},eJ j n (l++[x])=eJ j n l++(if x.k=2/\x.i=j then[((n+l.length:Nat):Int)] else[]):=by
 intro l;induction l with
 |nil=>intro n;simp only[me,eJ,yt,ta]
 |cons y r aK=>
  intro n;rw[Sd];unfold eJ;rw[aK,show n+1+r.length=n+(y::r).length by rw[iQ];omega];split<;>rfl
theorem YX{g:bz}{j:Int}{i:Nat}{x:cS}(U:g.ns[i]?=some x):eJ j 0 (g.ns.take (i+1))=eJ j 0 (g.ns.take i)++(if x.k=2/\x.i=j then[(i:Int)] else[]):=by
 have ao:=(dX.1 U).1;rw[nS,U];show eJ j 0 (g.ns.take i++[x])=_;rw[anr,h1,mf (by omega),ls]
theorem Y1{g:bz}{i:Nat}{x:cS}(U:g.ns[i]?=some x)(aU:x.k≠2):qH g (i+1)=qH g i:=by
 unfold qH;congr 1
 funext j
 rw[YX U,ap (fun q=>aU q.1),gg]
theorem Y2{g:bz}{i:Nat}{x:cS}(U:g.ns[i]?=some x)(aU:x.k=2)(bD:0<=x.i)(aa:x.i<g.is.length):qH g (i+1)=(qH g i).set x.i.toNat (eJ x.i 0 (g.ns.take i)++[(i:Int)]):=by
 apply lp
 intro j;rw[kH,zV];by_cases ba:j<g.is.length
 ·rw[IM ba,IM ba,YX U]
  by_cases q:x.i.toNat=j
  ·rw[aE ⟨aU,by omega⟩,aE q,aE (by omega),show(j:Int)=x.i by omega]
  ·rw[ap (fun r=>q (by omega)),ap q,gg]
 ·rw[fx (by rw[zV];omega),fx (by rw[zV];omega),ap (by omega)]
theorem LV{j:Int}:∀{l:List cS} {n:Nat},(eJ j n l).length<=l.length:=by
 intro l;induction l with
 |nil=>intro n;exact cZ _
 |cons y r aK=>
  intro n;have:=aK (n:=n+1);unfold eJ;split<;>(simp only[iQ];omega)
section
variable {Q:dI Tryz.prog}{g0:Nat}{J:aI}
abbrev sg(ad:Nat)(d:Int):Nat×cK:=(ad,.row [.int .i64 d] 3)
abbrev Gl(wX:Int)(es:List gq):Int:=es.foldl (fun m e=>max m e.2.1) wX
theorem ang{g:bz}{aT aL:Option Addr}{aQ ci:Nat}{ad:Nat}(aq:fG J g aT aQ aL ci)(dn:g.ns.length<=2000)(av:∀x∈g.ns,x.ak.length<=60):∀(f a:Nat) (kB d wX:Int),g.ns.length<a+f->a<=g.ns.length->0<=d->d<=a->
 Fn (bb Q g0) 74 [hc g aT aQ aL ci,.int .i64 (a:Int),.int .i64 d,.pointer (some ⟨ad,0,none⟩)] [sg ad wX] J (fun u m' ag=>J=ag/\∃T2 r,m'=[sg ad T2]/\u=.int .i64 r/\match dP g.ns f kB d a with
  |none=>r=-1
  |some (b0,es)=>r=(b0:Int)/\T2=Gl wX es):=by
 obtain⟨_,fD⟩:=aq.n.at;have fW:addrEq aL aL=true:=aq.i.addr;have gn:addrEq aT aT=true:=aq.n.addr;intro f;induction f with
 |zero=>intro a kB d wX aa ae;omega
 |succ f aK=>
 intro a kB d wX aC a' tW ag';refine Fn.cH (cQ Tryz.func74) rfl rfl fun H=>?_;refine rg ?_;refine dJ fun a4=>?_;refine I V.aA ?_;refine bj ?_;refine aM ?_;refine I V.aF ?_;refine I V.bP ?_;refine I V.a1 ?_;refine ns ?_;refine If (fun q4=>?_) fun q4=>?_
 ·refine rg ?_;refine I V.aA ?_;refine ns ?_;refine ab.ret ?_;refine'⟨.inr rfl,rfl,_,[sg ad _],.tmp rfl .nil,(by first|exact .cons _ (.refl _)|exact .cons_cons _ (iR _)),?_⟩;refine⟨rfl,_,_,rfl,rfl,?_⟩;first
   |(have c:=q4;rw[show dP g.ns (f+1) kB d a=none by unfold dP;rw[fx (by omega)]])
   |(rw[et (by omega)] at fs
     rw[Ac lG fs];exact⟨rfl,vD⟩)
 ·obtain⟨FH,off,cells,bG,rfl,ms,ec⟩:=fD (by omega);obtain⟨x,cs,U,gV,ir,ey⟩:=ec a (by omega) (by omega);obtain⟨bm,bt,bl,bw,b8,dh,rfl,eo,ga,gz⟩:=ey;have za:=ir 3 _ (by decide) rfl;have lG:g.ns[a]?=some x:=by simpa using U
  have aju:=av x (cd lG);have j':=eo.iB [];refine nf ?_;refine aM ?_;refine I V.aF ?_;refine I V.ah ?_;refine' W.step rfl (Exec.val rfl rfl (L7 rfl rfl rfl rfl rfl) ?_);refine I V.o2 ?_;refine dN ?_;refine bj ?_;refine I V.ah ?_;refine I V.bx ?_;refine I V.aA ?_;refine bj ?_;refine I V.aA ?_;refine ns ?_;refine ab.block ?_;refine aj ?_;refine ab.gB (List.Perm.swap _ _ _) ?_;refine' ab.c2 (l':=[(9,.int .i64 ((a+1):Int)),(10,.int .i64 ((0):Int)),(1,_),(2,_),(3,_),(4,_)]) ⟨?pS,?pQ,rfl,rfl,rfl,rfl,trivial⟩ (bA _) ?_;case pS=>exact bS
  case pQ=>exact bS
  refine aj ?_;refine' ab.dF (fun(bH:Nat×Nat×(List gq)×Int)=>match bH with|(k,cur,es,d1)=>⟨[(9,.int .i64 (cur:Int)),(10,.int .i64 (k:Int))],[sg ad d1,(a4,.row (iq g (some ⟨FH,off,none⟩) aQ aL ci) 27)],J,k<=x.ak.length/\hl (dP g.ns f a (d+1)) (x.ak.take k) (a+1)=some (cur,es)/\d1=Gl (max wX d) es,x.ak.length -k⟩) ⟨0,a+1,[],max wX d⟩ ?af ?bE
  case af=>exact⟨cB _,rfl,rfl⟩
  case bE=>
   rintro⟨k,cur,es,d1⟩ hinv;try simp only at hinv
   obtain⟨aU,fs,vD⟩:=hinv;refine rg ?_;refine aM ?_;refine I V.aF ?_;refine I V.ah ?_;refine I V.aX ?_;refine I V.bc ?_;refine I V.aF ?_;refine I V.bP ?_;refine I V.a1 ?_;refine ns ?_;refine If (fun pi=>?_) fun pi=>?_
   ·obtain⟨a5,atw,aqG,rfl,k9,ahr⟩:=j' (by omega);obtain⟨apq,HQ,e0⟩:=ahr k (by omega) (by omega);have qp:x.ak[k]?=some apq:=by simpa using HQ
    obtain⟨xh,ji,oO⟩:=AI (fun p q r s=>qJ _ _ _ p q r s) fs (by omega);refine c5 ?_;refine aj ?_;refine ab.block ?_;refine rg ?_;refine I V.bc ?_;refine I V.aF ?_;refine I V.ah ?_;refine I V.aX ?_;refine I V.bc ?_;refine I V.aF ?_;refine I V.ah ?_;refine I V.aX ?_;refine' W.step rfl (Exec.val rfl rfl (gY rfl rfl ?ay (hp (eV rfl) ?az)) ?_);case ay=>exact k9.sub (fun _ q=>by cases q)
    case az=>first|rfl|assumption
    refine I V.ah ?_;refine I V.a1 ?_;refine ns ?_;refine If (fun tn=>?_) fun tn=>?_
    ·refine rg ?_;refine I V.aA ?_;refine ns ?_;refine ab.ret ?_;refine'⟨.inr rfl,rfl,_,[sg ad _],.tmp rfl .nil,(by first|exact .cons _ (.refl _)|exact .cons_cons _ (iR _)),?_⟩;refine⟨rfl,_,_,rfl,rfl,?_⟩;first
       |(have c:=q4;rw[show dP g.ns (f+1) kB d a=none by unfold dP;rw[fx (by omega)]])
       |(have c:=tn;rw[uK lG (ts (k:=k+1) (by rw[q6 fs qp,aE tn]))])
       |(rw[et (by omega)] at fs
         rw[Ac lG fs];exact⟨rfl,vD⟩)
    ·refine aj ?_;refine ab.skip ?_;refine rg ?_;refine I V.c8 ?_;refine aM ?_;refine I V.bx ?_;refine I V.ah ?_;refine' W.step rfl (Exec.call rfl rfl rfl rfl rfl rfl rfl (bh:=[sg ad d1]) (bW:=[_]) (.refl _) trivial (aK cur a (d+1) d1 (by omega) ji (by omega) (by omega)) ?_);rintro v m' ag hle ⟨rfl,d2,ei,rfl,rfl,hm⟩;refine I V.aA ?_;refine bj ?_;refine I V.ah ?_;refine I V.a1 ?_;refine ns ?_;refine If (fun Tw=>?_) fun Tw=>?_
     ·refine rg ?_;refine I V.aA ?_;refine ns ?_;refine ab.ret ?_;refine'⟨.inr rfl,rfl,_,[sg ad _],.tmp rfl .nil,(by first|exact .cons _ (.refl _)|exact .cons_cons _ (iR _)),?_⟩;refine⟨rfl,_,_,rfl,rfl,?_⟩;first
       |(have c:=q4;rw[show dP g.ns (f+1) kB d a=none by unfold dP;rw[fx (by omega)]])
       |(have c:=tn;rw[uK lG (ts (k:=k+1) (by rw[q6 fs qp,aE tn]))])
       |(have c:=Tw
         have:dP g.ns f a (d+1) cur=none:=by
             cases ed:dP g.ns f a (d+1) cur with
             |none=>rfl
             |some p=>obtain⟨b0,aN⟩:=p;rw[ed] at hm;simp only at hm;omega
         rw[uK lG (ts (k:=k+1) (by rw[q6 fs qp,this];split<;>rfl))])
       |(rw[et (by omega)] at fs
         rw[Ac lG fs];exact⟨rfl,vD⟩)
     ·obtain⟨b0,aN,ed,ah6,xm⟩:∃b0 aN,dP g.ns f a (d+1) cur=some (b0,aN)/\ei=(b0:Int)/\d2=Gl d1 aN:=by
       cases ed:dP g.ns f a (d+1) cur with
       |none=>rw[ed] at hm;simp only at hm;omega
       |some p=>obtain⟨b0,aN⟩:=p;rw[ed] at hm;exact⟨b0,aN,rfl,hm.1,hm.2⟩
      subst xm;refine nf ?_;refine I V.ah ?_;refine I V.bx ?_;refine I V.aA ?_;refine a8 ?_;refine cA ⟨k+1,b0,es++aN,Gl d1 aN⟩ ?_;exact⟨by omega,by rw[q6 fs qp,ap (by omega),ed],by rw[vD];simp[Gl,Jn]⟩
   ·refine aj ?_;refine ab.exit ?_;refine rg ?_;refine aM ?_;refine ns ?_;refine ab.ret ?_;refine'⟨.inr rfl,rfl,_,[sg ad _],.tmp rfl .nil,(by first|exact .cons _ (.refl _)|exact .cons_cons _ (iR _)),?_⟩;refine⟨rfl,_,_,rfl,rfl,?_⟩;first
     |(have c:=q4;rw[show dP g.ns (f+1) kB d a=none by unfold dP;rw[fx (by omega)]])
     |(rw[et (by omega)] at fs
       rw[Ac lG fs];exact⟨rfl,vD⟩)
end
theorem XB{l:List Value}{j k:Nat}{v:Value}(h:l[j]?=some v)(aU:k=j:=by omega):nth l k=some v:=by subst aU;rw[kR];exact h
theorem Y9{l:List Value}{j k:Nat}{v:Value}(h:j<l.length)(aU:k=j:=by omega):gD k l [v]=some (l.set j v):=by
 subst aU;rw[Cm _ _ _ (by simp;omega),Mt,aE h];simp
section
variable {Q:dI Tryz.prog}{g0:Nat}{J:aI}
theorem Rb{g:bz}{aT aL:Option Addr}{aQ ci:Nat}(aq:fG J g aT aQ aL ci)(dn:g.ns.length<=2000)(i2:g.is.length<=200)(aP:∀x∈g.ns,ev g x=0):
 Fn (bb Q g0) 75 [hc g aT aQ aL ci] [] J (fun u m' ag=>∃b c,u=.slice b (gC g).length c/\m'=[]/\J.le ag/\fa ag 22 1 (jI ag) (.slice b (gC g).length c) (gC g)):=by
 obtain⟨_,fD⟩:=aq.n.at;have fW:addrEq aL aL=true:=aq.i.addr;have gn:addrEq aT aT=true:=aq.n.addr;refine Fn.cH (cQ Tryz.func75) rfl rfl fun H=>?_;refine rg ?_;refine dJ fun bo=>?_;refine I V.aA ?_;refine bj ?_;refine I V.bc ?_;refine I V.aF ?_;refine I V.bP ?_;refine' W.step rfl (.of (pT rfl rfl rfl rfl rfl (nl Q g0) ?bD ?aa ?ae fun a9=>?_));case bD=>exact cf
 case aa=>exact cf
 case ae=>exact cf
 refine I V.aA ?_;refine a8 ?_;rw[CB,cy];refine rg ?_;refine I V.aA ?_;refine ns ?_;refine ab.block ?_;refine' ab.c2 (l':=[(4,.int .i64 ((0):Int)),(1,_),(3,_)]) ⟨?kF,rfl,rfl,trivial⟩ (bA _) ?_;case kF=>exact bS
 refine aj ?_;refine' ab.dF (fun(bH:Nat×(List Value)×(List aO)×aO)=>match bH with|(i,vs,hX,sn)=>⟨[(4,.int .i64 (i:Int))],(a9,.row vs 22)::(sn++[(bo,.row (iq g aT aQ aL ci) 27)]),J,i<=g.ns.length/\qK 3 (qH g i) vs hX/\sn=hX.flatten,g.ns.length -i⟩) ⟨0,List.replicate g.is.length (.slice none 0 0),List.replicate g.is.length [],[]⟩ ?af ?bE
 case af=>exact⟨cB _,by rw[Y3];exact qK.init _,Uz.symm⟩
 case bE=>
  rintro⟨i,vs,hX,sn⟩ hinv;try simp only at hinv
  obtain⟨ao,h9,iK⟩:=hinv;refine rg ?_;refine aM ?_;refine I V.aF ?_;refine I V.bP ?_;refine I V.a1 ?_;refine ns ?_;refine If (fun ly=>?_) fun ly=>?_
  ·obtain⟨a,off,cells,bG,rfl,ms,ec⟩:=fD (by omega);obtain⟨x,cs,U,gV,_,ey⟩:=ec i (by omega) (by omega);obtain⟨bm,bt,bl,bw,b8,dh,rfl,eo,ga,gz⟩:=ey;rw[cy] at U;have e1:=U;have e0:=aP x (cd e1);refine c5 ?_;refine aj ?_;refine ab.block ?_;refine rg ?_;refine I V.bc ?_;refine I V.aF ?_;refine I V.ah ?_;refine I V.aX ?_;refine I V.c8 ?_;refine' W.step rfl (.of (e4 rfl rfl rfl (om Q g0) rfl rfl rfl fun a5=>?_));refine dN ?_;refine bj ?_;refine I V.bc ?_;refine I V.aF ?_;refine I V.a1 ?_;refine ns ?_;refine If (fun nY=>?_) fun nY=>?_
   ·have ua:=Im e0 (by simpa using nY);obtain⟨v,aY,PS,Pf,cw⟩:=h9.get (IM (g:=g) (i:=i) (j:=x.i.toNat) (by omega));rw[show((x.i.toNat:Nat):Int)=x.i by omega] at cw;obtain⟨bv,gJ,rfl⟩:=cw.form;have Cc:=cw.addr;have Po:nth vs (0+x.i.toNat*1)=some (.slice bv (eJ x.i 0 (g.ns.take i)).length gJ):=XB PS;have hlen:(eJ x.i 0 (g.ns.take i)).length<=2000:=by have:=LV (j:=x.i) (l:=g.ns.take i) (n:=0);rw[h1] at this;omega
    have xG:vs.length=g.is.length:=by rw[h9.lv,zV]
    have Pg:hX.length=g.is.length:=by rw[h9.zA,zV]
    refine aj ?_;refine ab.draw rfl (by kernel_rfl) (bf:=[.val 0,.val 1,.val 2,.val 3,.val 4,.val 5,.val 6,.val 7,.val 8,.gh 9,.cF [8,7,6,5,4,3,2,1,0],.bV 10,.val 11,.cF [2,1,0],.bV 12]) (by kernel_rfl) ?_;refine cq ?_;refine an rfl V.aF ?_;refine cq ?_;refine an rfl V.aF ?_;refine an rfl V.aX ?_;refine an rfl V.aF ?_;refine an rfl V.ah ?_;refine a7.buildSlice rfl rfl rfl rfl rfl rfl (eX Q g0) rfl rfl rfl fun ov=>?_;refine a7.cF fC ?_;refine' a7.fO rfl rfl (kf rfl rfl rfl rfl rfl rfl (eX Q g0) (pO Q g0) (fun i q=>by cases q) ?cw ?hm ?U ?cr ?cc ?av fun Z4 Xk Kr=>?_);case cw=>assumption
    case hm=>exact CX (by rw[iK];exact NJ Pf)
    case U=>exact hP
    case cr=>first|rfl|(simp;done)|(simp;omega)
    case cc=>first|rfl|exact hg _
    case av=>exact cf
    obtain⟨abl,hS,rfl⟩:=Kr.form;refine an rfl V.aX ?_;refine a7.cF fC ?_;refine' a7.fO rfl rfl (hz rfl rfl rfl rfl (fY rfl) rfl rfl rfl ?aa ?af ?aw ?_);case aw=>repeat first|exact .head _ _ _ _|apply cR.tail|apply cR.app
    case af=>exact Y9 (j:=x.i.toNat) (by omega)
    case aa=>first|rfl|assumption
    refine a7.nil ?_;first
      |(have BE:=Kr;refine ab.gB (CX (J' (j:=x.i.toNat) (l:=hX) (by omega))) ?_)
      |skip
    refine rg ?_;refine I V.ah ?_;refine I V.bx ?_;refine I V.aA ?_;refine a8 ?_;refine cA ⟨i+1,vs.set x.i.toNat _,hX.set x.i.toNat Xk,(hX.set x.i.toNat Xk).flatten⟩ ?_ (hm:=.cons _ (.cons _ (.refl _)));refine⟨by omega,?_,rfl⟩;rw[Y2 e1 (by simpa using nY) ua.1 ua.2.1];exact h9.set (by simpa using Kr)
   ·refine aj ?_;refine ab.skip ?_;first
      |(have BE:=Kr;refine ab.gB (CX (J' (j:=x.i.toNat) (l:=hX) (by omega))) ?_)
      |skip
    refine rg ?_;refine I V.ah ?_;refine I V.bx ?_;refine I V.aA ?_;refine a8 ?_;refine cA ⟨i+1,vs,hX,sn⟩ ?_ (hm:=.cons _ (.refl _));refine⟨by omega,by rw[Y1 e1 (by simpa using nY)];exact h9,iK⟩
  ·refine aj ?_;refine ab.exit ?_;have hi':i=g.ns.length:=by omega
   rw[hi',Y0] at h9;refine ab.Yk h9 (m0:=(a9,.row vs 22)::[(bo,.row (iq g aT aQ aL ci) 27)]) (by rw[iK];exact List.perm_middle.symm) fun eZ cE bB=>?_;refine ab.mD rfl fun dV=>?_;have jO:=Ua (aI.oy eZ a9 (vs,22)) h9.lv (by rw[uG];unfold c9;omega) fun j s v aa ae=>(bB j s v aa ae).mono dV;refine rg ?_;refine aM ?_;refine ns ?_;refine ab.ret ?_;refine c' ?_;exact⟨some ⟨a9,0,none⟩,(gC g).length,by rw[uG];rfl,rfl,cE.trans dV,jO⟩
end
end
end Go.Opn
