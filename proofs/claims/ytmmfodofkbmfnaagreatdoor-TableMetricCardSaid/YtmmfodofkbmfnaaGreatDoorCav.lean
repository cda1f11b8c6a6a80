/- A part of the proof of TableMetric. -/
import Derived.Test.YtmmfodofkbmfnaaGreatDoorCau
import Derived.Laws.Strings2
set_option linter.unusedVariables false
set_option linter.unusedSimpArgs false
namespace Go.Opn
noncomputable section
open Go.Cre Go.RowKit
inductive ew (J:an) (e:TypeId) (sz:Nat):Value->Nat->List Value->Prop
 |nil:ew J e sz (.slice none 0 0) 0 []
 |hy (a off cap:Nat):cap<cf->ew J e sz (.slice (some ⟨a,off,none⟩) 0 cap) 0 []
 |rY:ew J e sz (.slice (some ⟨0,0,some 0⟩) 0 0) 0 []
 |row {a off len cap:Nat} {cells cs:List Value} {bl:TypeId}:J a=some (cells,bl)->(cells.drop off).take (len*sz)=cs->cs.length=len*sz->(cap≠cf->len<=cap/\cap<cf)->(cap=cf->bl=e)->ew J e sz (.slice (some ⟨a,off,none⟩) len cap) len cs
theorem ew.mono{J ai:an}(hle:J.le ai){e:TypeId}{sz n:Nat}{v:Value}{cs:List Value}(h:ew J e sz v n cs):ew ai e sz v n cs:=by
 cases h with
 |nil=>exact .nil
 |hy a off cap h=>exact .hy a off cap h
 |rY=>exact .rY
 |row U ab aV br gq=>exact .row (hle _ _ U) ab aV br gq
theorem ew.inv{J:an}{e:TypeId}{sz n:Nat}{v:Value}{cs:List Value}(h:ew J e sz v n cs):∃b c,v=.slice b n c/\cs.length=n*sz/\(b=none->n=0)/\(0<n->∃a off cells bl,b=some ⟨a,off,none⟩/\J a=some (cells,bl)/\∀k,k<n*sz->nth cells (off+k)=cs[k]?):=by
 cases h with
 |nil=>exact⟨_,_,rfl,by simp,fun _=>rfl,fun q=>absurd q (by omega)⟩
 |hy a off cap h=>exact⟨_,_,rfl,by simp,fun _=>rfl,fun q=>absurd q (by omega)⟩
 |rY=>exact⟨_,_,rfl,by simp,fun _=>rfl,fun q=>absurd q (by omega)⟩
 |@row a off len cap cells cs bl U ab aV br gq=>
  refine⟨_,_,rfl,aV,(fun q=>by cases q),fun _=>⟨a,off,cells,bl,rfl,U,fun k hk=>?_⟩⟩;rw[jr,<-ab,kX,bs hk,vb]
theorem ew.len{J:an}{e:TypeId}{sz n:Nat}{v:Value}{cs:List Value}(h:ew J e sz v n cs):cs.length=n*sz:=by
 obtain⟨_,_,_,h,_⟩:=h.inv;exact h
theorem sT{α:Type}{n:Nat}{l:List α}(h:n<=l.length):takeN n l=some (l.take n):=by
 induction n generalizing l with
 |zero=>rfl
 |succ n aN=>
  cases l with
  |nil=>simp at h
  |cons a l=>
   simp only[takeN];rw[aN (by simpa using h)];rfl
def jg(g0:Nat)(B:c6)(J:an)(m:aU)(sz:Nat)(v:Value)(n:Nat)(cs:List Value):Prop:=∀H,Inv g0 B J m H->mL v=some n/\hd H sz n v=some cs
theorem ew.rd{g0:Nat}{B:c6}{J:an}{m:aU}{e:TypeId}{sz n:Nat}{v:Value}{cs:List Value}(h:ew J e sz v n cs):jg g0 B J m sz v n cs:=by
 intro H au;cases h with
 |nil=>exact⟨rfl,rfl⟩
 |hy a off cap h=>exact⟨rfl,rfl⟩
 |rY=>exact⟨rfl,rfl⟩
 |@row a off len cap cells cs bl U ab aV br gq=>
  refine⟨rfl,?_⟩;obtain⟨o,f,z,s,q⟩:=au.dv _ _ _ U;unfold hd;cases n with
  |zero=>simp only;rw[<-ab];simp
  |succ n=>
   simp only[q];rw[rW,sT,ab];have:((cells.drop off).take ((n+1)*sz)).length=(n+1)*sz:=by rw[ab];exact aV
   rw[hQ] at this;omega
section
variable {K:di}{B:c6}{o:Oper}{n:Nat}{ds:dL}{l:List (Nat×Value)}{m m':aU}{J:an}{dS:bK->aU->an->Prop}{d:Nat}
def jd (P:Program)(t:TypeId):Option (TypeId×Nat×List Value):=match P.underlying t with
 |some (.slice e)=>(match dD P e,o8 P e,fw P e with
  |some sz,some fG,some z=>bif Nat.ble fG 1000000&&Nat.beq z.cells.toList.length sz&&z.cells.toList.all dY&&plain z then some (e,sz,z.cells.toList) else none
  |_,_,_=>none)
 |_=>none
theorem ri{P:Program}{t e:TypeId}{sz:Nat}{fc:List Value}(h:jd P t=some (e,sz,fc)):P.underlying t=some (.slice e)/\dD P e=some sz/\∃fG z,o8 P e=some fG/\fw P e=some z/\Nat.ble fG 1000000=true/\fc=z.cells.toList/\fc.length=sz/\fc.all dY=true/\plain z=true:=by
 unfold jd at h;split at h
 ·rename_i bl U;split at h
  ·rename_i Y8 fG z ab aV br;cases af:(Nat.ble fG 1000000&&Nat.beq z.cells.toList.length Y8&&z.cells.toList.all dY&&plain z) with
   |true=>
    rw[af,bH] at h;simp only[bL,cU] at h;obtain⟨rfl,rfl,rfl⟩:=h;simp only[eT] at af;obtain⟨⟨⟨bV,b7⟩,c5⟩,dM⟩:=af;exact⟨U,ab,fG,z,aV,br,bV,rfl,dB b7,c5,dM⟩
   |false=>rw[af,cZ] at h;cases h
  ·cases h
 ·cases h
theorem Oi{t e:TypeId}{k sz:Nat}{fc cells:List Value}{ps:Array (Nat×Operand)}{vs:List (Nat×Value)}(ae:o.op=.buildSlice t k ps)(ax:o.dst=some d)(aE:Nat.blt d n=true)(ao:tx l ps.toList=some vs)(aG:jd K.P t=some (e,sz,fc))(hk:(Nat.ble k 100000&&Nat.ble (k*sz) 100000)=true)(ay:km (fun i=>some (i*sz,sz)) (fb fc k) vs=some cells)(U:cells.all dY=true)
 (h:∀a,dS ⟨n,ds,(d,.slice (some ⟨a,0,none⟩) k k)::l⟩ ((a,.row cells e)::m) J):g' K B o ⟨n,ds,l⟩ m J dS:=by
 obtain⟨hu,de,fG,z,fQ,a0,bV,rfl,b7,c5,dM⟩:=ri aG;refine g'.uW ax aE fun S H al au=>?_;obtain⟨H1,aA,aW⟩:=au.alloc cells e;refine⟨_,H1,_,J,fun call az=>?_,aW,h H.av⟩;unfold cc eh;simp only[ae];show zI K.P _ t k (iw S.T H ps.toList)=_;rw[Jn al H ao];show jT (x' K.P H t k vs)=_;unfold x' oG;simp only[hu,de,a0];rw[hk,dM,show Nat.beq z.cells.toList.length sz=true by rw[b7];exact ga _];simp only[u3,bH,ay,U,aA];rfl
theorem ze{i:Int}{len:Nat}(a2:0<=i)(U:i<=len):lY i len=some i.toNat:=by
 cases i with
 |ofNat n=>
  unfold lY;have:Nat.ble n len=true:=jx (by simpa using U);simp only[this,bH];rfl
 |negSucc n=>exact absurd a2 (by simp)
theorem xh{t e:TypeId}{x y:Operand}{sz:Nat}{fc:List Value}{i aa:Int}{pH B1:IntKind}(ae:o.op=.makeSlice t x y)(ax:o.dst=some d)(aE:Nat.blt d n=true)(j:bB l x=some (.int pH i))(aC:bB l y=some (.int B1 aa))(aG:jd K.P t=some (e,sz,fc))(a2:0<=i)(U:i<=aa)(ab:aa<=1000000)
 (h:∀a,dS ⟨n,ds,(d,.slice (some ⟨a,0,none⟩) i.toNat aa.toNat)::l⟩ ((a,.row (fb fc aa.toNat) e)::m) J):g' K B o ⟨n,ds,l⟩ m J dS:=by
 obtain⟨hu,de,fG,z,fQ,a0,bV,rfl,b7,c5,dM⟩:=ri aG;refine g'.uW ax aE fun S H al au=>?_;obtain⟨H1,aA,aW⟩:=au.alloc (fb z.cells.toList aa.toNat) e;refine⟨_,H1,_,J,fun call az=>?_,aW,h H.av⟩;unfold cc eh;simp only[ae];show zJ K.P _ t (aR S.T H x) (aR S.T H y)=_;rw[cX al H j,cX al H aC];show jT (yc K.P H t (.int pH i) (.int B1 aa))=_;unfold yc oG;simp only[hu,a0,fQ,de];rw[ze (by omega) (by omega),ze (by omega) (by omega)];simp only[bV,c5,dM,Ah];rw[show Nat.beq z.cells.toList.length sz=true by rw[b7];exact ga _,show Nat.ble i.toNat aa.toNat=true from jx (by omega)];simp only[Ah,bH,aA];rfl
inductive Acc (e:TypeId) (sz:Nat):Value->Nat->List Value->aU->Prop
 |nil:Acc e sz (.slice none 0 0) 0 [] []
 |hy (a:Nat):Acc e sz (.slice (some ⟨a,0,none⟩) 0 0) 0 [] []
 |opn {a k:Nat} {cells:List Value} {rest:List Nat} {z:Nat}:cells.length=k*sz->z<=cells.length->Acc e sz (.slice (some ⟨a,0,none⟩) k cf) k cells [(a,.opn cells e rest z)]
 |cap {a k C:Nat} {cells full:List Value} {el:TypeId}:full.length=C*sz->full.take (k*sz)=cells->k<=C->C<cf->Acc e sz (.slice (some ⟨a,0,none⟩) k C) k cells [(a,.row full el)]
theorem CJ{α:Type}:∀(off:Nat) (l vs:List α),off+vs.length<=l.length->fD off l vs=some (l.take off++vs++l.drop (off+vs.length)):=by
 intro off;induction off with
 |zero=>
  intro l vs h;induction vs generalizing l with
  |nil=>cases l<;>simp[fD]
  |cons v vs aN=>
   cases l with
   |nil=>simp at h
   |cons a l=>
    have:=aN l (by simp only[kY] at h;omega);simp only[fD,this];simp
 |succ n aN=>
  intro l vs h;cases l with
  |nil=>simp at h
  |cons a l=>
   have:=aN l vs (by simp only[kY] at h;omega);simp only[fD,this];simp[Nat.add_right_comm n 1 vs.length]
theorem Inv.perm{g0:Nat}{H:ah}(h:Inv g0 B J m H)(ao:m.Perm m'):Inv g0 B J m' H:=
 ⟨h.wf,h.bf,h.av,h.bM,h.eN,h.j',h.dv,h.le,h.fresh,fun a b q=>h.own a b (ao.symm.subset q),fun a b q=>h.opn a b (ao.symm.subset q),(BU ao).nodup_iff.1 h.eY⟩
theorem Inv.grow{g0 a z:Nat}{H:ah}{cells:List Value}{e:TypeId}{rest:List Nat}(h:Inv g0 B J ((a,.opn cells e rest z)::m) H)(cells':List Value):∃f H1 bG,H.mem.get a=some (.row cells e true f z false)/\H.ba.get f=some (a::rest)/\H.mW f (H.av::a::rest)=some H1/\H1.av=H.av/\H1.new (.row cells' e true f z false)=some (H.av,bG)/\Inv g0 B J ((H.av,.opn cells' e (a::rest) z)::m) bG:=by
 obtain⟨a8,a5,bI,cL⟩:=h.own a _ (.head _);obtain⟨f,f1,f2,f3⟩:=a8;have Ko:=h.wf.yh f3;have dk:=h.eY;rw[show ids ((a,db.opn cells e rest z)::m)=a::(rest++ids m) from rfl,qb,m3] at dk;obtain⟨H1,aA⟩:=h.wf.mW (H.av::a::rest) Ko;obtain⟨s2,s1,iP,uO,nL⟩:=ah.w4 aA;have hm:Inv g0 B J m H1:=by
  refine⟨h.wf.GS Ko aA,uO.trans h.bf,by rw[s2];exact h.av,by rw[iP];exact h.bM,fun x j fA=>by rw[s1];exact h.eN x j fA,fun g ar=>?_,fun x c e aX=>by rw[s1];exact h.dv x c e aX,h.le,h.fresh,fun x b af=>?_,fun x b af y aC=>by rw[s2];exact h.opn x b (.tail _ af) y aC,(xz _ _).nodup dk.2⟩
  ·rw[nL,a1 (fun q=>ar (by rw[q];exact f1))];exact h.j' g ar
  ·obtain⟨eJ,ei,iu,ka⟩:=h.own x b (.tail _ af);refine⟨?_,ei,iu,ka⟩;cases b with
   |row c e=>show H1.mem.get x=_;rw[s1];exact eJ
   |map es k=>show H1.mem.get x=_;rw[s1];exact eJ
   |loop r=>show H1.mem.get x=_;rw[s1];exact eJ
   |fN=>show H1.mem.get x=_;rw[s1];exact eJ
   |opn c bl r fv=>
    obtain⟨g,b4,b0,cI⟩:=eJ;refine⟨g,b4,by rw[s1];exact b0,?_⟩;rw[nL,a1]
    ·exact cI
    ·intro q;subst q;rw[f3] at cI;injection cI with cI;injection cI with cI
     subst cI;exact dk.1 (.inr (um af))
 obtain⟨bG,aW⟩:=hm.wf.new (.row cells' e true f z false);obtain⟨_,dn,ep,fp,hi,ed⟩:=ah.l3 aW;refine⟨f,H1,bG,f2,f3,aA,s2,by rw[<-s2];exact aW,?_⟩;have ab:Inv g0 B J m bG:=by
  refine⟨hm.wf.Gj aW,hi.trans hm.bf,by have:=hm.av;omega,by rw[fp];exact hm.bM,fun x j fA=>?_,fun g ar=>by rw[ep];exact hm.j' g ar,fun x c e aX=>?_,hm.le,hm.fresh,fun x b af=>?_,fun x b af y aC=>?_,hm.eY⟩
  ·rw[ed,a1 (by have:=hm.av;omega)];exact hm.eN x j fA
  ·obtain⟨o,f,z,s,q⟩:=hm.dv x c e aX;exact⟨o,f,z,s,by rw[ed,a1 (by have:=hm.wf.lt q;omega)];exact q⟩
  ·obtain⟨eJ,ei,iu,ka⟩:=hm.own x b af;exact⟨db.rQ eJ (by rw[ed,a1 (by have:=hm.lt af;omega)]) (fun f l ay=>by rw[ep];exact ay),ei,iu,ka⟩
  ·obtain⟨eJ,ei,iu⟩:=hm.opn x b af y aC;exact⟨by omega,ei,iu⟩
 refine⟨ab.wf,ab.bf,ab.av,ab.bM,ab.eN,ab.j',ab.dv,ab.le,ab.fresh,fun x b af=>?_,fun x b af y aC=>?_,?_⟩
 ·rcases fy.1 af with q|q
  ·injection q with aQ aP;subst aQ;subst aP
   exact⟨⟨f,f1,by rw[ed,s2,bs rfl],by rw[ep,nL,bs rfl]⟩,.inl h.av,h.Gk,h.El⟩
  ·exact ab.own x b q
 ·rcases fy.1 af with q|q
  ·injection q with aQ aP;subst aQ;subst aP
   have cx:y<H.av/\(B.H0.av<=y\/B.X y)/\J y=none:=by
    rcases fy.1 (show y∈a::rest from aC) with q|q
    ·subst q;exact⟨h.lt (.head _),a5,bI⟩
    ·exact h.opn a _ (.head _) y q
   exact⟨by have:=cx.1;omega,cx.2⟩
  ·exact ab.opn x b q y aC
 ·show(H.av::(a::(rest++ids m))).Nodup;rw[qb];refine⟨fun q=>?_,h.eY⟩;have:=h.B6 (show H.av∈ids ((a,db.opn cells e rest z)::m) from q);omega
theorem IQ{aa:Nat}(h:aa≠0):Nat.ble (0+aa) 0=false:=by
 cases q:Nat.ble (0+aa) 0
 ·rfl
 ·have:=fV q;omega
def je(bq:aU):Prop:=∀a c e r z,(a,db.opn c e r z)∈bq->z=0
theorem Hs{a:Nat}{c:List Value}{e:TypeId}{r:List Nat}:je [(a,.opn c e r 0)]:=fun a c e r z q=>by
 rcases fy.1 q with q|q
 ·injection q with _ q;injection q
 ·cases q
theorem aaq{a:Nat}{c:List Value}{e:TypeId}:je [(a,.row c e)]:=fun a c e r z q=>by
 rcases fy.1 q with q|q
 ·cases q
 ·cases q
theorem aap{a bA:Nat}{c bo:List Value}{e bl:TypeId}{r cA:List Nat}{z:Nat}(h:je [(a,.opn c e r z)]):je [(bA,.opn bo bl cA z)]:=fun b x y u w q=>by
 rcases fy.1 q with q|q
 ·injection q with _ q;injection q with _ _ _ q
  subst q;exact h _ _ _ _ _ (.head _)
 ·cases q
def q3(bq:aU):Prop:=∀a c e,(a,db.row c e)∉bq
theorem Cd{a:Nat}{c:List Value}{e:TypeId}{r:List Nat}{z:Nat}:q3 [(a,.opn c e r z)]:=fun a c e q=>by
 rcases fy.1 q with q|q
 ·cases q
 ·cases q
theorem Oh{c:Call}{t fK e:TypeId}{sz k aa:Nat}{fc cells new:List Value}{v x:Value}{bq dK:aU}{fz:TypeDesc}(ae:o.op=.call c)(aF:c.callee=.builtin .append)(ax:o.dst=some d)(aE:Nat.blt d n=true)(aK:hz l c.args.toList=some [v,x])(nw:c.argTypes.toList=[t,fK])(aG:jd K.P t=some (e,sz,fc))(h0:K.P.underlying fK=some fz)(pz:∀i,fz≠.int i)
 (aD:Acc e sz v k cells bq)(hm:m=bq++dK)(j:jg K.g0 B J m sz x aa new)(dQ:new.length=aa*sz)(dV:new.all dY=true)(aw:k+aa<=1000000)
 (h:∀w g7,Acc e sz w (k+aa) (cells++new) g7->(je bq->je g7)/\(q3 bq->q3 g7)->dS ⟨n,ds,(d,w)::l⟩ (g7++dK) J):g' K B o ⟨n,ds,l⟩ m J dS:=by
 obtain⟨hu,de,fG,z,fQ,a0,bV,rfl,b7,c5,dM⟩:=ri aG;refine g'.uW ax aE fun S H al au=>?_;obtain⟨fa,fh⟩:=j H au;have fo:∀call az,cc K.P call az S H o=jT (lK K.P H t v x):=fun call az=>by
  rw[vx ae aF];unfold mr;rw[mq al H aK,nw];simp only[h0]
 have hY:(!(Nat.ble (k+aa) 1000000&&Nat.ble fG 1000000&&Nat.beq z.cells.toList.length sz))=false:=by
  rw[bV,b7,ga,show Nat.ble (k+aa) 1000000=true from jx aw];rfl
 have nr:(!(new.all dY&&Nat.beq new.length (aa*sz)))=false:=by
  rw[dV,dQ,ga];rfl
 subst hm;cases aD with
 |nil=>
  by_cases aX:aa=0
  ·subst aX;have j9:new=[]:=by apply nY;rw[dQ];simp
   subst j9;refine⟨.slice none 0 0,H,_,J,fun call az=>?_,au,h _ [] .nil ⟨id,id⟩⟩;rw[fo];unfold lK;simp only[hu,de,fQ,a0,fa,hY,cZ,fh,nr];rfl
  ·obtain⟨H1,aA,aW⟩:=au.kt new e;refine⟨.slice (some ⟨H.av,0,none⟩) aa cf,H1,(H.av,.opn new e [] 0)::dK,J,fun call az=>?_,aW,?_⟩
   ·rw[fo];unfold lK;simp only[hu,de,fQ,a0,fa,hY,cZ,fh,nr];rw[show Nat.beq 0 cf=false from rfl,cZ,IQ aX,cZ];simp only[hd,At,qf,ga,bH,rD,fresh,aA,lE];rfl
   ·have:=h (.slice (some ⟨H.av,0,none⟩) aa cf) [(H.av,.opn new e [] 0)] (by rw[lE,rD];exact .opn dQ (fj _)) ⟨fun _=>Hs,fun _=>Cd⟩;exact this
 |hy a=>
  by_cases aX:aa=0
  ·subst aX;have j9:new=[]:=by apply nY;rw[dQ];simp
   subst j9;refine⟨.slice (some ⟨a,0,none⟩) 0 0,H,_,J,fun call az=>?_,au,h _ [] (.hy a) ⟨id,id⟩⟩;rw[fo];unfold lK;simp only[hu,de,fQ,a0,fa,hY,cZ,fh,nr];rfl
  ·obtain⟨H1,aA,aW⟩:=au.kt new e;refine⟨.slice (some ⟨H.av,0,none⟩) aa cf,H1,(H.av,.opn new e [] 0)::dK,J,fun call az=>?_,aW,?_⟩
   ·rw[fo];unfold lK;simp only[hu,de,fQ,a0,fa,hY,cZ,fh,nr];rw[show Nat.beq 0 cf=false from rfl,cZ,IQ aX,cZ];simp only[hd,At,qf,ga,bH,rD,fresh,aA,lE];rfl
   ·have:=h (.slice (some ⟨H.av,0,none⟩) aa cf) [(H.av,.opn new e [] 0)] (by rw[lE,rD];exact .opn dQ (fj _)) ⟨fun _=>Hs,fun _=>Cd⟩;exact this
 |@opn a k cells rest z hlen fC=>
  have sq:Nat.ble z (0+k*sz)=true:=jx (by omega);by_cases aX:aa=0
  ·subst aX;have j9:new=[]:=by apply nY;rw[dQ];simp
   subst j9;obtain⟨f,H1,bG,b4,b0,eH,fg,e2,lM⟩:=Inv.grow (m:=dK) au cells;have mB:Nat.blt a H.bf=false:=by
    cases q:Nat.blt a H.bf
    ·rfl
    ·have:a<H.bf:=by simpa[Nat.blt,o5] using q
     have:=(au.own _ _ (.head _)).2.2.2;have:=au.bf;omega
   refine⟨.slice (some ⟨a,0,none⟩) k cf,H,_,J,fun call az=>?_,au,h _ [(a,.opn cells e rest z)] (by rw[n0,kW];exact .opn hlen fC) ⟨id,id⟩⟩;rw[fo];unfold lK;simp only[hu,de,fQ,a0,fa,hY,cZ,fh,nr,ga,bH,b4,mB,HB,u3,sq,kB];rfl
  ·obtain⟨f,H1,bG,b4,b0,eH,fg,e2,lM⟩:=Inv.grow (m:=dK) au (cells++new);have mB:Nat.blt a H.bf=false:=by
    cases q:Nat.blt a H.bf
    ·rfl
    ·have:a<H.bf:=by simpa[Nat.blt,o5] using q
     have:=(au.own _ _ (.head _)).2.2.2;have:=au.bf;omega
   refine⟨.slice (some ⟨H.av,0,none⟩) (k+aa) cf,bG,(H.av,.opn (cells++new) e (a::rest) z)::dK,J,fun call az=>?_,lM,?_⟩
   ·rw[fo];have E3:Nat.beq aa 0=false:=by
     cases q:Nat.beq aa 0
     ·rfl
     ·exact absurd (dB q) aX
    have FE:takeN (k*sz) cells=some cells:=by rw[sT (by omega),jY (by omega)]
    unfold lK;simp only[hu,de,fQ,a0,fa,hY,cZ,fh,nr,ga,bH,b4,mB,HB,u3,sq,kB,E3,FE,b0,rV,hlen,x2,eH,fg,e2];rfl
   ·exact h (.slice (some ⟨H.av,0,none⟩) (k+aa) cf) [(H.av,.opn (cells++new) e (a::rest) z)] (.opn (by rw[hP,hlen,dQ,hH]) (by rw[hP];omega)) ⟨aap,fun _=>Cd⟩
 |@cap a k C cells full el gU lQ Kw hA=>
  have KH:Nat.beq C cf=false:=by
   cases q:Nat.beq C cf
   ·rfl
   ·have:=dB q;omega
  have jK:H.mem.get a=some (.row full el false 0 0 false):=(au.own a (.row full el) (.head _)).1;have yE:cells.length=k*sz:=by rw[<-lQ,hQ,gU,h5 (kf _ Kw)]
  have TO:Nat.blt a H.bf=false:=by
   cases q:Nat.blt a H.bf
   ·rfl
   ·have:a<H.bf:=by simpa[Nat.blt,o5] using q
    have:=(au.own _ _ (.head _)).2.2.2;have:=au.bf;omega
  by_cases j8:k+aa<=C
  ·have uf:k*sz+new.length<=full.length:=by rw[dQ,gU,<-hH];exact kf _ j8
   have mH:=CJ (k*sz) full new uf;have dA:∃H1,ni H a (0+k*sz) new=some H1/\∃vF,Inv K.g0 B J ((a,.row vF el)::dK) H1/\vF.length=C*sz/\vF.take ((k+aa)*sz)=cells++new:=by
    cases ot:new with
    |nil=>
     have a2:aa*sz=0:=by rw[<-dQ,ot];rfl
     exact⟨H,rfl,full,au,gU,by rw[hH,a2,n0,lQ,kW]⟩
    |cons gC xs=>
     obtain⟨H1,aA,aW⟩:=au.store (cells':=full.take (k*sz)++new++full.drop (k*sz+new.length)) (.head _ _ _ _);refine⟨H1,?_,_,aW,?_,?_⟩
     ·rw[<-ot]
      have:ni H a (0+k*sz) new=(bif Nat.blt a H.bf then none else match H.mem.get a with
       |some (.row cells elem opn ba du sh)=>bif Nat.ble du (0+k*sz)&&new.all dY then(match fD (0+k*sz) cells new with
        |none=>none
        |some cells=>match H.upd a (.row cells elem opn ba du sh) with
         |none=>none
         |some H=>bif opn then su H a ba else some H) else none
       |_=>none):=by rw[ot];rfl
      rw[this];simp only[TO,cZ,jK,lE,mH,aA,dV,Ah,Nat.ble,bH]
     ·simp only[hP,hQ,qa];omega
     ·rw[xu,List.take_append,lQ,jY (by rw[yE,hH];omega),List.take_append,jY (by rw[yE,dQ,hH];omega),yE,dQ,hH,show k*sz+aa*sz -k*sz -aa*sz=0 by omega,kD,kW];exact ak _ ot
   obtain⟨H1,aA,vF,aW,cr,dU⟩:=dA;refine⟨.slice (some ⟨a,0,none⟩) (k+aa) C,H1,(a,.row vF el)::dK,J,fun call az=>?_,aW,h _ [(a,.row vF el)] (.cap cr dU j8 hA) ⟨fun _=>aaq,fun q=>absurd (.head _) (q _ _ _)⟩⟩;rw[fo];unfold lK;simp only[hu,de,fQ,a0,fa,hY,cZ,fh,nr,KH,show Nat.ble (k+aa) C=true from jx j8,bH,aA];rfl
  ·obtain⟨H1,aA,aW⟩:=au.kt (cells++new) e;have tR:Nat.ble (k+aa) C=false:=by
    cases q:Nat.ble (k+aa) C
    ·rfl
    ·have:=fV q;omega
   have hold:hd H sz k (.slice (some ⟨a,0,none⟩) k C)=some cells:=by
    cases k with
    |zero=>
     rw[qf,kD] at lQ;subst lQ;rfl
    |succ k=>
     simp only[hd,jK];rw[rW,kd,sT (by rw[gU];exact kf _ Kw),lQ]
   refine⟨.slice (some ⟨H.av,0,none⟩) (k+aa) cf,H1,(H.av,.opn (cells++new) e [] 0)::dK,J,fun call az=>?_,aW.sub (.cons_cons _ (.cons _ (.refl _))),h _ [(H.av,.opn (cells++new) e [] 0)] (.opn (by rw[hP,yE,dQ,hH]) (fj _)) ⟨fun _=>Hs,fun _=>Cd⟩⟩;rw[fo];unfold lK;simp only[hu,de,fQ,a0,fa,hY,cZ,fh,nr,KH,tR,sC,hold,yE,ga,bH,fresh,aA];rfl
theorem aah{c:Call}{t fK e:TypeId}{sz k aa:Nat}{fc cells new:List Value}{v x:Value}{bq dK:aU}{fz:TypeDesc}(ae:o.op=.call c)(aF:c.callee=.builtin .append)(ax:o.dst=some d)(aE:Nat.blt d n=true)(aK:hz l c.args.toList=some [v,x])(nw:c.argTypes.toList=[t,fK])(aG:jd K.P t=some (e,sz,fc))(h0:K.P.underlying fK=some fz)(pz:∀i,fz≠.int i)
 (aD:Acc e sz v k cells bq)(hm:m=bq++dK)(j:jg K.g0 B J m sz x aa new)(dQ:new.length=aa*sz)(dV:new.all dY=true)(aw:k+aa<=1000000)
 (h:∀w g7,Acc e sz w (k+aa) (cells++new) g7->dS ⟨n,ds,(d,w)::l⟩ (g7++dK) J):g' K B o ⟨n,ds,l⟩ m J dS:=
 Oh ae aF ax aE aK nw aG h0 pz aD hm j dQ dV aw fun w g7 q _=>h w g7 q
end
section
variable {K:di}{B:c6}{o:Oper}{n:Nat}{ds:dL}{l:List (Nat×Value)}{m m':aU}{J:an}{dS:bK->aU->an->Prop}{d:Nat}
theorem ad.cut{c:Code}{E:bK}{L:List (Nat×Value)}{M:aU}{bO:an}{cC:Exit->bK->aU->an->Prop}(U:ad K B c E m J fun e cy m' ai=>match e with
 |.normal=>(∃l',cy=⟨n,ds,l'⟩/\lp l' L)/\M.Sublist m'/\ai=bO
 |e=>cC e cy m' ai)(ab:cC .normal ⟨n,ds,L⟩ M bO):ad K B c E m J cC:=by
 intro S H al au;obtain⟨e,aB,H',cy,cM,ai,a8,a5,bI,cL⟩:=U S H al au;cases e with
 |normal=>
  obtain⟨⟨l',rfl,gy⟩,kq,rfl⟩:=cL;exact⟨_,aB,H',_,M,_,a8,a5.sub gy,bI.sub kq,ab⟩
 |exit i=>exact⟨_,aB,H',_,_,_,a8,a5,bI,cL⟩
 |goto i=>exact⟨_,aB,H',_,_,_,a8,a5,bI,cL⟩
 |ret=>exact⟨_,aB,H',_,_,_,a8,a5,bI,cL⟩
 |panic c=>exact⟨_,aB,H',_,_,_,a8,a5,bI,cL⟩
 |outgrown=>exact⟨_,aB,H',_,_,_,a8,a5,bI,cL⟩
theorem pe{t:Nat}{p:Prop}[Decidable p](h:look l t=some (.bool true))(ao:p):look l t=some (.bool (decide p)):=by rw[h,hv ao]
theorem pc{t:Nat}{p:Prop}[Decidable p](h:look l t=some (.bool false))(ao:¬p):look l t=some (.bool (decide p)):=by rw[h,gd ao]
theorem pd{t:Nat}{p q:Prop}[Decidable p][Decidable q](h:look l t=some (.bool (decide q)))(ao:q↔p):look l t=some (.bool (decide p)):=by rw[h];simp[ao]
theorem pb{t:Nat}{p:Prop}[Decidable p]{b:Bool}(h:look l t=some (.bool b))(ao:b=true↔p):look l t=some (.bool (decide p)):=by rw[h];congr 2;rw[mb];simp[ao]
def rR (l:List (Nat×Value))(d:Int):Option Operand->Option Int
 |none=>some d
 |some x=>match bB l x with|some (.int _ i)=>some i|_=>none
theorem DC{S:aO}(al:Sat ⟨n,ds,l⟩ S)(H:ah){dl i:Int}{x:Option Operand}(h:rR l dl x=some i):(x=none/\i=dl/\gA S.T H x=some none)\/(∃k y,x=some y/\bB l y=some (.int k i)/\gA S.T H x=some (some (.int k i))):=by
 cases x with
 |none=>injection h with h;exact .inl ⟨rfl,h.symm,rfl⟩
 |some y=>
  right
  simp only[rR] at h;split at h
  ·rename_i k aa aX;injection h with h;subst h
   exact⟨k,y,rfl,aX,by simp only[gA];rw[cX al H aX]⟩
  ·cases h
theorem tm{S:aO}(al:Sat ⟨n,ds,l⟩ S)(H:ah){dl i:Int}{x:Option Operand}{hx top:Nat}(h:rR l dl x=some i)(a2:0<=i)(U:i<=top)(ax:dl=hx):∃q',gA S.T H x=some q'/\ik hx top q'=some i.toNat:=by
 rcases DC al H h with⟨rfl,rfl,q⟩|⟨k,y,rfl,aC,q⟩
 ·refine⟨none,q,?_⟩;rw[ax];rfl
 ·exact⟨_,q,ze a2 U⟩
theorem Oj{t e:TypeId}{x:Operand}{fR aq:Option Operand}{v:Value}{k sz:Nat}{fc cs:List Value}{a b:Int}(ae:o.op=.slice t x fR aq none)(ax:o.dst=some d)(aE:Nat.blt d n=true)(j:bB l x=some v)(aG:jd K.P t=some (e,sz,fc))(aD:ew J e sz v k cs)(hk:0<k)(g4:rR l 0 fR=some a)(iX:rR l k aq=some b)(a2:0<=a)(U:a<=b)(ab:b<=k)
 (h:∀w,ew J e sz w (b -a).toNat ((cs.drop (a.toNat*sz)).take ((b -a).toNat*sz))->dS ⟨n,ds,(d,w)::l⟩ m J):g' K B o ⟨n,ds,l⟩ m J dS:=by
 obtain⟨hu,de,fG,z,fQ,a0,bV,rfl,b7,c5,dM⟩:=ri aG;refine g'.uW ax aE fun S H al au=>?_;cases aD with
 |nil=>exact absurd hk (by omega)
 |hy a off cap h=>exact absurd hk (by omega)
 |rY=>exact absurd hk (by omega)
 |@row hp off k cap cells cs bl cJ cW eE hD oQ=>
  obtain⟨ol,Gw,uy⟩:=tm (hx:=0) (top:=b.toNat) al H g4 a2 (by omega) rfl;have fo:∀w,iI K.P H t (.slice (some ⟨hp,off,none⟩) k cap) ol (match gA S.T H aq with|some x=>x|none=>none)=some w->∀call az,cc K.P call az S H o=some (.val w H):=fun w hw call az=>by
   unfold cc eh;simp only[ae];show kv K.P _ t (aR S.T H x) (gA S.T H fR) (gA S.T H aq)=_;rw[cX al H j,Gw];rcases DC al H iX with⟨_,_,q⟩|⟨_,_,_,_,q⟩
   ·rw[q] at hw ⊢;unfold kv;simp only;rw[show iI K.P H t (.slice (some ⟨hp,off,none⟩) k cap) ol none=some w from hw];rfl
   ·rw[q] at hw ⊢;unfold kv;simp only;rw[show iI K.P H t (.slice (some ⟨hp,off,none⟩) k cap) ol _=some w from hw];rfl
  have hlen:k*sz<=(cells.drop off).length:=by
   have:((cells.drop off).take (k*sz)).length=k*sz:=by rw[cW];exact eE
   rw[hQ] at this;omega
  have aA:(b -a).toNat=b.toNat -a.toNat:=by omega
  have hle:a.toNat*sz+(b -a).toNat*sz<=k*sz:=by
   rw[<-hH];exact kf _ (by omega)
  have hK:(cells.drop (off+a.toNat*sz)).take ((b -a).toNat*sz)=(cs.drop (a.toNat*sz)).take ((b -a).toNat*sz):=by
   rw[<-cW,C9,rE,xv,h5 (by omega)]
  have jH:((cs.drop (a.toNat*sz)).take ((b -a).toNat*sz)).length=(b -a).toNat*sz:=by
   rw[hQ,qa,eE];omega
  obtain⟨Gx,of,Xk,os,bY⟩:=au.dv _ _ _ cJ;by_cases aF:cap=cf
  ·subst aF;obtain⟨zE,oI,oJ⟩:=tm (hx:=k) (top:=k) al H iX (by omega) (by omega) rfl;refine⟨.slice (some ⟨hp,off+a.toNat*sz,none⟩) (b -a).toNat cf,H,m,J,fo _ ?_,au,h _ (.row cJ hK jH (fun q=>absurd rfl q) oQ)⟩;rw[oI];unfold iI;simp only[hu,de,ga,bH,bY,oQ rfl,oJ,uy,kB,cZ];rw[aA];rfl
  ·obtain⟨zE,oI,oJ⟩:=tm (hx:=k) (top:=cap) al H iX (by omega) (by have:=(hD aF).1;omega) rfl;have yD:Nat.beq cap cf=false:=by
    cases q:Nat.beq cap cf
    ·rfl
    ·exact absurd (dB q) aF
   by_cases om:cap=a.toNat
   ·have fC:(b -a).toNat=0:=by have:=(hD aF).1;omega
    refine⟨.slice (some ⟨hp,off,none⟩) (b -a).toNat (cap -a.toNat),H,m,J,fo _ ?_,au,h _ ?_⟩
    ·rw[oI];unfold iI;simp only[hu,de,yD,cZ,oJ,uy];rw[show Nat.beq cap a.toNat=true by rw[om];exact ga _,bH,aA];rfl
    ·have:(cs.drop (a.toNat*sz)).take ((b -a).toNat*sz)=[]:=by rw[fC];simp
     rw[this,fC,om,AE];exact .hy _ _ _ (by decide)
   ·refine⟨.slice (some ⟨hp,off+a.toNat*sz,none⟩) (b -a).toNat (cap -a.toNat),H,m,J,fo _ ?_,au,h _ (.row cJ hK jH (fun _=>⟨by have:=(hD aF).1;omega,by have:=(hD aF).2;omega⟩) (fun q=>?_))⟩
    ·rw[oI];unfold iI;simp only[hu,de,yD,cZ,oJ,uy];have:Nat.beq cap a.toNat=false:=by
      cases q:Nat.beq cap a.toNat
      ·rfl
      ·exact absurd (dB q) om
     rw[this,cZ,aA];rfl
    ·have:=(hD aF).2;omega
end
open Classical
section
variable {K:di}{B:c6}{o:Oper}{n:Nat}{ds:dL}{l:List (Nat×Value)}{m m':aU}{J:an}{dS:bK->aU->an->Prop}{d:Nat}{cC:Exit->bK->aU->an->Prop}
end
section
variable {K:di}{B:c6}{o:Oper}{n:Nat}{ds:dL}{l:List (Nat×Value)}{m m':aU}{J:an}{dS:bK->aU->an->Prop}{d:Nat}
theorem Acc.dv{c:Code}{e:TypeId}{sz k:Nat}{v:Value}{cells:List Value}{bq dK:aU}{E:bK}{cC:Exit->bK->aU->an->Prop}(h:Acc e sz v k cells bq)(hm:m=bq++dK)(hk:∀ai,J.le ai->ew ai e sz v k cells->ad K B c E dK ai cC):ad K B c E m J cC:=by
 subst hm;cases h with
 |nil=>exact hk J (an.le.refl _) .nil
 |hy a=>exact hk J (an.le.refl _) (.hy _ _ _ (by decide))
 |@opn a k cells rest z aw a0=>
  intro S H al au;obtain⟨a8,a5⟩:=au.ju (m:=dK) (x:=(cells,e)) rfl;exact hk _ a5 (.row (an.h6 _ _ _) (by rw[kd,jY (by omega)]) aw (fun q=>absurd rfl q) (fun _=>rfl)) S H al a8
 |@cap a k C cells full el U ab aV br=>
  intro S H al au;obtain⟨a8,a5⟩:=au.ju (m:=dK) (x:=(full,el)) rfl;exact hk _ a5 (.row (an.h6 _ _ _) ab (by rw[<-ab,hQ,U,h5 (kf _ aV)]) (fun _=>⟨aV,br⟩) (fun q=>absurd q (xC br))) S H al a8
end
end
end Go.Opn
