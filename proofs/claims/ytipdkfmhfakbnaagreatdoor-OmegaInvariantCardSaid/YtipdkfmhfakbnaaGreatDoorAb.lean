/- Plain theorems and definitions of this seat, several texts in one. -/
import Derived.Test.YtipdkfmhfakbnaaGreatDoorAa
set_option linter.unusedVariables false
set_option linter.unusedSimpArgs false
set_option linter.unusedSectionVars false
namespace Go.Q
open Go Go.RowKit Go.X
variable [eW]
section
variable {P:Program} {tb:List (dF P)} {ty:TypeId} {L:SS} {sv:Option Sv} {ef:Ef} {e:Env} {w:World}
theorem gx{t:Nat}{T:dF P}(h:cE tb t=some T):P.underlying t=some T.d:=by rw[<-Bl h];exact T.hd
theorem fV{t:Nat}{T:dF P}(h:cE tb t=some T):TI P t T.sz T.pY T.z:=by rw[<-Bl h];exact T.ti
theorem beq0{n:Nat}(h:Nat.beq n 0=false):(n==0)=false:=by
 cases n with
 |zero=>cases h
 |succ n=>rfl
theorem uD{ν:Nu}{H:Bool->Hp}{g:Bool}{sz off:Nat}{l:List Lf}{vs:List Value}{s:S1}(h:sW g sz l off=some s)(hl:cS ν H l vs):
 (g=false/\∃v,vs[off]?=some v/\s.R ν H v)\/(g=true/\∃us,us.length=sz/\(vs.drop off).take us.length=us/\s.R ν H (.agg us.toArray)):=by
 unfold sW at h;split at h
 . split at h
   . rename_i hb;cases h;have e1:=dI hb;have h1:=(hl.drop off).take sz;have h2:=h1.length;refine .inr ⟨rfl,_,h2.trans e1,?_,_,rfl,h1⟩;rw[h2,e1]
   . cases h
 . split at h
   . rename_i x hx;cases h;obtain⟨y,g1,g2⟩:=hl.get hx;exact .inl ⟨rfl,y,g1,g2⟩
   . cases h
theorem MD{ν:Nu}{j off:Nat}{l:List Lf}{v:Value}{H:Bool->Hp}(hO:∀i ob,aQ L.bC i=some ob->∃b c n k,ν i=some (b,c,n)/\dC w b k/\ob.R ν H c n k)(hp:Lf.R ν H (.ptr j off) v)(ho:aQ L.bC j=some (.box l)):
 ∃b vs,v=.pointer (some ⟨b,off,none⟩)/\dC w (some b) (.cells vs)/\cS ν H l vs:=by
 obtain⟨b,c,h1,h2⟩:=hp;obtain⟨b',c',n',k,g1,g2,vs,g3,g4⟩:=hO j _ ho;rw[h1]at g1;cases g1;subst g3;exact⟨b,vs,h2,g2,g4⟩
theorem HC{ν:Nu}{H:Bool->Hp}{sz:Nat}(hS:di ν H (aQ L.bP) e):∀{parts:List (Nat×Operand)} {l:List Lf} (k:Nat),arC L sz parts=some l->BM k parts=true->
 ∃(vs:List Value) (css:List (List Value)),(parts.map fun p=>(p.1,ev e p.2))=lY k vs/\rv sz vs css/\cS ν H l css.flatten/\vs.length=parts.length
 |[],_,k,h,_=>by cases h;exact⟨[],[],rfl,trivial,rfl,rfl⟩
 |(i,x)::r,_,k,h,hn=>by
  simp only[arC]at h;simp only[BM,fI]at hn;split at h
  . rename_i s hx;split at h
    . rename_i hb;split at h
      . rename_i y hy;cases h;obtain⟨us,u1,u2⟩:=sx (db hS hx);obtain⟨vs,css,g1,g2,g3,g4⟩:=HC hS (k+1) hy hn.2;have e1:us.length=sz:=by rw[u2.length];exact dI hb
        have e2:=dI hn.1;subst e2;exact⟨ev e x::vs,us::css,by simp only[jN,g1,lY],⟨u1,e1,g2⟩,u2.append g3,by simp[g4]⟩
      . cases h
    . cases h
  . cases h
theorem My:∀{fs:List Field} {pl:List (Nat×Nat)},pls tb fs=some pl->placesOf P fs=some pl
 |[],_,h=>by cases h;rfl
 |f::r,_,h=>by
  simp only[pls]at h;split at h
  . rename_i F hF;split at h
    . rename_i y hy;cases h;obtain⟨i,h1,h2,_⟩:=fV hF;have:=My hy;unfold placesOf at this⊢;simp only[MH,h1,ov,this,h2];rfl
    . cases h
  . cases h
theorem KV{ν:Nu}{H:Bool->Hp}{pl:List (Nat×Nat)}(hS:di ν H (aQ L.bP) e):∀{parts:List (Nat×Operand)} {l l':List Lf} {cs:List Value},zX L pl parts l=some l'->cS ν H l cs->
 ∃(is:List Nat) (vs:List Value) (css:List (List Value)) (cs':List Value),(parts.map fun p=>(p.1,ev e p.2))=is.zip vs/\is.length=vs.length/\y8 vs css/\rR pl cs (is.zip css)=some cs'/\cS ν H l' cs'
 |[],l,_,cs,h,hl=>by cases h;exact⟨[],[],[],cs,rfl,rfl,trivial,rfl,hl⟩
 |(i,x)::r,l,_,cs,h,hl=>by
  simp only[zX]at h;split at h
  . rename_i s hx;split at h
    . rename_i off size hp;split at h
      . rename_i hb;simp only[fI]at hb;obtain⟨us,u1,u2⟩:=sx (db hS hx);obtain⟨is,vs,css,cs',g1,g2,g3,g4,g5⟩:=KV hS h (hl.put u2);refine⟨i::is,ev e x::vs,us::css,cs',by simp[g1],by simp[g2],⟨u1,g3⟩,?_,g5⟩;simp only[MM,rR,hp];have e1:Nat.beq us.length size=true:=by rw[u2.length];exact hb.1
        have e2:Nat.blt cs.length (off+us.length)=false:=by
         have h2:=kx hb.2;rw[<-u2.length,<-hl.length]at h2;cases hb2:Nat.blt cs.length (off+us.length)with
         |false=>rfl
         |true=>have h3:cs.length+1<=off+us.length:=kx hb2;omega
        rw[e1,e2];exact g4
      . cases h
    . cases h
  . cases h
theorem au_ok{op:Op}(h:au tb L op=some (ef,sv)):LT P L op ty ef sv:=by
 cases op with
 |move x=>
  simp only[au]at h;split at h
  . rename_i s hx;cases h;exact LT.look fun ν H e w hv ht hO hS=>aF.move rfl ⟨rfl,db hS hx⟩
  . cases h
 |assign x=>
  simp only[au]at h;split at h
  . rename_i s hx;cases h;exact LT.look fun ν H e w hv ht hO hS=>aF.assign rfl ⟨rfl,db hS hx⟩
  . cases h
 |pick c a b=>
  simp only[au]at h;split at h
  . rename_i hc;split at h
    . rename_i s hx;cases h;exact LT.look fun ν H e w hv ht hO hS=>aF.Rx (eJ hS hc).1 rfl rfl ⟨rfl,db hS hx⟩
    . cases h
  . rename_i hc;split at h
    . rename_i s hx;cases h;exact LT.look fun ν H e w hv ht hO hS=>aF.T5 (eJ hS hc).1 rfl rfl ⟨rfl,db hS hx⟩
    . cases h
  . cases h
 |binOp op t x y u=>
  simp only[au]at h;split at h
  . rename_i a hx;split at h
    . rename_i b hy;split at h
      . rename_i v hv;cases h;exact LT.look fun ν H e w _ ht hO hS=>Ta hv (eJ hS hx).1 (eJ hS hy).1 fun ho=>⟨rfl,rfl,ho⟩
      . cases h
    . cases h
  . cases h
 |unOp op t x=>
  simp only[au]at h;split at h
  . rename_i a hx;split at h
    . rename_i v hv;cases h;exact LT.look fun ν H e w _ ht hO hS=>UQ hv (eJ hS hx).1 fun ho=>⟨rfl,rfl,ho⟩
    . cases h
  . cases h
 |extract x i=>
  simp only[au]at h;split at h
  . rename_i l hx;split at h
    . rename_i s hg;cases h;refine LT.look fun ν H e w hv ht hO hS=>?_;obtain⟨vs,h1,h2⟩:=db hS hx;obtain⟨y,g1,g2⟩:=h2.get hg;exact aF.extract h1 g1 ⟨rfl,g2⟩
    . cases h
  . cases h
 |nilCheck x=>
  simp only[au]at h;split at h
  . rename_i j off hx;cases h;refine LT.look fun ν H e w hv ht hO hS=>?_;obtain⟨b,c,h1,h2⟩:=db hS hx;exact aF.nilCheck h2 ⟨rfl,b,c,h1,rfl⟩
  . rename_i κ c off hx;cases h;refine LT.look fun ν H e w hv ht hO hS=>?_;obtain⟨b,o,vs,h1,h2,h3⟩:=db hS hx;exact aF.nilCheck h1 ⟨rfl,b,o,vs,rfl,h2,h3⟩
  . cases h
 |field t x i=>
  simp only[au]at h;split at h
  . rename_i T hT;split at h
    . rename_i fs hd;split at h
      . rename_i f hf;split at h
        . rename_i F hF;split at h
          . rename_i l hx;split at h
            . rename_i s hc;cases h;have hu:=gx hT;rw[hd]at hu;refine LT.look fun ν H e w hv ht hO hS=>?_;obtain⟨vs,h1,h2⟩:=db hS hx;rcases uD hc h2 with⟨hg,v,k1,k2⟩|⟨hg,us,k0,k1,k2⟩
              . exact aF.PD hu hf (gx hF) hg h1 k1 ⟨rfl,k2⟩
              . exact aF.Tg hu hf (gx hF) hg (fV hF) h1 (by rw[<-k0];exact k1) ⟨rfl,k2⟩
            . cases h
          . cases h
        . cases h
      . cases h
    . cases h
  . cases h
 |fieldAddr s x i=>
  simp only[au]at h;split at h
  . rename_i T hT;split at h
    . rename_i fs hd;split at h
      . rename_i f hf;split at h
        . rename_i F hF;split at h
          . cases h
          . rename_i hz;have hz':=beq0 hz;have hu:=gx hT;rw[hd]at hu;split at h
            . rename_i j off hx;cases h;refine LT.look fun ν H e w hv ht hO hS=>?_;obtain⟨b,c,g1,g2⟩:=db hS hx;exact aF.fieldAddr hu hf (fV hF) hz' g2 rfl ⟨rfl,b,c,g1,rfl⟩
            . rename_i κ c off hx;cases h;refine LT.look fun ν H e w hv ht hO hS=>?_;obtain⟨b,o,vs,g1,g2,g3⟩:=db hS hx;exact aF.fieldAddr hu hf (fV hF) hz' g1 rfl ⟨rfl,b,o,vs,by rw[pK],g2,g3⟩
            . rename_i j r xs a ix off hx;cases h;refine LT.look fun ν H e w hv ht hO hS=>?_;obtain⟨b,c,n,g1,g2,g3,g4⟩:=db hS hx;exact aF.fieldAddr hu hf (fV hF) hz' g4 rfl ⟨rfl,b,c,n,g1,g2,g3,by rw[pK]⟩
            . rename_i j r κ xs a ix off hx;cases h;refine LT.look fun ν H e w hv ht hO hS=>?_;obtain⟨b,c,n,m,g1,g2,g3,g4⟩:=db hS hx;rcases g4 with⟨g4,b',g5,g6⟩|⟨g4,b',o,vs,g5,g6,g7⟩
              . exact aF.fieldAddr hu hf (fV hF) hz' g6 rfl ⟨rfl,b,c,n,m,g1,g2,g3,.inl ⟨g4,b',g5,by rw[pK]⟩⟩
              . exact aF.fieldAddr hu hf (fV hF) hz' g5 rfl ⟨rfl,b,c,n,m,g1,g2,g3,.inr ⟨g4,b',o,vs,by rw[pK],g6,g7⟩⟩
            . cases h
        . cases h
      . cases h
    . cases h
  . cases h
 |load t x=>
  simp only[au]at h;split at h
  . rename_i T hT;split at h
    . rename_i j off hx;split at h
      . rename_i l ho;split at h
        . rename_i s hc;cases h;refine LT.look fun ν H e w hv ht hO hS=>?_;obtain⟨b,vs,g1,g2,g4⟩:=MD hO (db hS hx) ho;rcases uD hc g4 with⟨hg,v,k1,k2⟩|⟨hg,us,k0,k1,k2⟩
          . exact aF.Ly (gx hT) hg g1 g2 k1 ⟨rfl,k2⟩
          . exact aF.Dd (gx hT) hg (fV hT) g1 g2 k0 k1 ⟨rfl,k2⟩
        . cases h
      . cases h
    . rename_i κ c off hx;split at h
      . rename_i s hc;cases h;refine LT.look fun ν H e w hv ht hO hS=>?_;obtain⟨b,o,vs,g1,g2,g3⟩:=db hS hx;rcases uD hc g3 with⟨hg,v,k1,k2⟩|⟨hg,us,k0,k1,k2⟩
        . refine aF.Jl (H:=H κ) (v:=v) (gx hT) hg g1 (hv κ) ?_ ⟨rfl,k2⟩;refine g2.part off ?_;have hlt:=(dS.1 k1).1;rw[fD hlt];have:=(dS.1 k1).2;simp[this]
        . exact aF.Jg (H:=H κ) (gx hT) hg (fV hT) g1 k0 (hv κ) (g2.part off k1) ⟨rfl,k2⟩
      . cases h
    . cases h
  . cases h
 |store t x y=>
  simp only[au]at h;split at h
  . rename_i T hT;split at h
    . rename_i j off hx;split at h
      . rename_i s hy;split at h
        . rename_i l ho;split at h
          . rename_i hb;cases h;rw[fI]at hb;have hb1:=dI hb.1;have hb2:=kx hb.2;refine LT.md ho fun ν H e w b c n k0 hv ht hO hS q1 q2 q3=>?_;obtain⟨vs,rfl,g4⟩:=q3;obtain⟨b',c',g1,g2⟩:=db hS hx;rw[q1]at g1;cases g1;obtain⟨us,k1,k2⟩:=sx (db hS hy);have hul:=k2.length;have hvl:=g4.length;refine aF.store (fV hT) g2 rfl k1 (by omega) k2.fb (jr q2) 0 rfl rfl (by omega) fun w' h1 h2=>?_;exact⟨_,h1,fun H' hH=>⟨_,rfl,(g4.mono (eR.refl ν) hH).put (k2.mono (eR.refl ν) hH)⟩⟩
          . cases h
        . cases h
      . cases h
    . cases h
  . cases h
 |alloc t=>
  simp only[au]at h;split at h
  . rename_i T hT;split at h
    . rename_i ho;have e1:=congrArg Prod.fst (iR h);have e2:=congrArg Prod.snd (iR h);dsimp only at e1 e2;subst e1;subst e2;refine LT.nw fun ν H e w hv ht hO hS=>?_;exact aF.alloc (cs:=T.z.cells.toList) (fV hT) (by simp) nI fun b w' h1 h2=>⟨some b,0,0,_,h1,fun ν' H' _ _=>⟨_,rfl,qu ho⟩,fun ν' H' _ _ hn=>⟨b,(0,0),hn,rfl⟩⟩
    . cases h
  . cases h
 |box t x=>
  simp only[au]at h;split at h
  . rename_i s hx;have e1:=congrArg Prod.fst (iR h);have e2:=congrArg Prod.snd (iR h);dsimp only at e1 e2;subst e1;subst e2;refine LT.nw fun ν H e w hv ht hO hS=>?_;obtain⟨vs,k1,k2⟩:=sx (db hS hx);exact aF.box rfl k1 nI fun b w' h1 h2=>⟨some b,0,0,_,h1,fun ν' H' hν hH=>⟨_,rfl,k2.mono hν hH⟩,fun ν' H' _ _ hn=>⟨b,(0,0),hn,rfl⟩⟩
  . cases h
 |convert s t x=>
  simp only[au]at h;split at h
  . rename_i A hA;split at h
    . rename_i T hT;split at h
      . rename_i k' hd;split at h
        . rename_i k z hx;cases h;have hu:=gx hT;rw[hd]at hu;exact LT.look fun ν H e w hv ht hO hS=>aF.Qo (gx hA) hu (eJ hS hx).1 rfl ⟨rfl,rfl,rfl⟩
        . cases h
      . cases h
    . cases h
  . cases h
 |call c=>
  obtain⟨callee,args,ats⟩:=c;simp only[au]at h;split at h
  . rename_i hc;split at h
    . rename_i x hx;split at h
      . rename_i t ht;obtain rfl:args=#[x]:=by rw[<-tj (xs:=args)];exact congrArg _ hx
        obtain rfl:ats=#[t]:=by rw[<-tj (xs:=ats)];exact congrArg _ ht
        split at h
        . rename_i T hT;split at h
          . rename_i el hd;have hu:=gx hT;rw[hd]at hu;split at h
            . rename_i α r κ xs ho;cases h;exact LT.look fun ν H e w hv ht hO hS=>aF.FK hu rfl (db hS ho) ⟨rfl,rfl,rfl⟩
            . rename_i α i r κ xs ho;cases h;refine LT.look fun ν H e w hv ht hO hS=>?_;obtain⟨b,c,n,h1,h2⟩:=db hS ho;rcases h2 with⟨e1,e2,e3⟩|⟨e1,e2,_⟩
              . cases b with
                |none=>
                 have hx:=e2 rfl;subst hx;exact aF.JI hu e3 ⟨rfl,rfl,rfl⟩
                |some b=>exact aF.IT hu e3 (by rw[e1]) ⟨rfl,rfl,rfl⟩
              . exact aF.FK hu rfl e2 ⟨rfl,rfl,rfl⟩
            . rename_i α r κ xs ho;cases h;exact LT.look fun ν H e w hv ht hO hS=>aF.FK hu rfl (And.left (db hS ho)) ⟨rfl,rfl,rfl⟩
            . rename_i i ho;split at h
              . rename_i α r κ xs hi;cases h;refine LT.look fun ν H e w hv ht hO hS=>?_;obtain⟨b,c,n,h1,h2⟩:=db hS ho;obtain⟨b',c',n',k,g2,g1,g3,g0,cs,sp,g4,g5,g6⟩:=hO i _ hi;rw[h1]at g2;cases g2;subst g4;exact aF.Pm (pre:=[]) (r:=r) (xs:=xs) hu h2 g1 g5 g0 g3 ⟨rfl,rfl,rfl⟩
              . cases h
            . rename_i ho;cases h;exact LT.look fun ν H e w hv ht hO hS=>aF.JI hu (db hS ho).1 ⟨rfl,rfl,rfl⟩
            . rename_i sz lo hi ho;cases h;refine LT.look fun ν H e w hv ht hO hS=>?_;obtain⟨b,c,m,k,cp,_,e1,e2,e3,e4⟩:=db hS ho;exact aF.IT hu e4 (by omega) ⟨rfl,rfl,rfl⟩
            . cases h
          . rename_i hd;have hu:=gx hT;rw[hd]at hu;split at h
            . rename_i l ho;cases h;exact LT.look fun ν H e w hv ht hO hS=>aF.Tk (s:=l) hu (eJ hS ho).1 ⟨rfl,rfl,rfl⟩
            . cases h
          . rename_i kt et hd;have hu:=gx hT;rw[hd]at hu;split at h
            . rename_i i ho;split at h
              . rename_i K V dk kf vf m hi;cases h;refine LT.look fun ν H e w hv ht hO hS=>?_;obtain⟨b,c,h1,h2⟩:=db hS ho;obtain⟨b',c',n',k,g2,g1,g3⟩:=hO i _ hi;rw[h1]at g2;cases g2;have g3:k=j5 kf vf m:=g3;subst g3;exact aF.Sw (kf:=kf) (vf:=vf) hu h2 g1 ⟨rfl,rfl,rfl⟩
              . cases h
            . cases h
          . cases h
        . cases h
      . cases h
    . cases h
  . rename_i hc;split at h
    . rename_i x y hx;obtain rfl:args=#[x,y]:=by rw[<-tj (xs:=args)];exact congrArg _ hx
      split at h
      . rename_i k a ho;split at h
        . rename_i k' b hy;cases h;exact LT.look fun ν H e w hv ht hO hS=>aF.min (eJ hS ho).1 (eJ hS hy).1 ⟨rfl,rfl,rfl⟩
        . cases h
      . cases h
    . cases h
  . rename_i hc;split at h
    . rename_i x y hx;obtain rfl:args=#[x,y]:=by rw[<-tj (xs:=args)];exact congrArg _ hx
      split at h
      . rename_i k a ho;split at h
        . rename_i k' b hy;cases h;exact LT.look fun ν H e w hv ht hO hS=>aF.max (eJ hS ho).1 (eJ hS hy).1 ⟨rfl,rfl,rfl⟩
        . cases h
      . cases h
    . cases h
  . cases h
 |indexAddr t x y=>
  simp only[au]at h;split at h
  . rename_i T hT;split at h
    . rename_i n el hd;split at h
      . rename_i E hE;split at h
        . rename_i k i hy;split at h
          . rename_i hi;have hu:=gx hT;rw[hd]at hu;have hlt:i<n:=by simpa using hi
            split at h
            . rename_i j off hx;cases h;refine LT.look fun ν H e w hv ht hO hS=>?_;obtain⟨b,c,h1,h2⟩:=db hS hx;exact aF.FN hu (fV hE) h2 (eJ hS hy).1 hlt rfl ⟨rfl,b,c,h1,rfl⟩
            . rename_i κ c off hx;cases h;refine LT.look fun ν H e w hv ht hO hS=>?_;obtain⟨b,o,vs,h1,h2,h3⟩:=db hS hx;exact aF.FN hu (fV hE) h1 (eJ hS hy).1 hlt rfl ⟨rfl,b,o,vs,by rw[pK],h2,h3⟩
            . rename_i j r xs a ix off hx;cases h;refine LT.look fun ν H e w hv ht hO hS=>?_;obtain⟨b,c,n,g1,g2,g3,g4⟩:=db hS hx;exact aF.FN hu (fV hE) g4 (eJ hS hy).1 hlt rfl ⟨rfl,b,c,n,g1,g2,g3,by rw[pK]⟩
            . cases h
          . cases h
        . cases h
      . cases h
    . cases h
  . cases h
 |build t parts=>
  simp only[au]at h;split at h
  . rename_i T hT;split at h
    . rename_i fs hd;split at h
      . rename_i pl hp;split at h
        . rename_i ho;split at h
          . rename_i l hl;cases h;have hu:=gx hT;rw[hd]at hu;refine LT.look fun ν H e w hv ht hO hS=>?_;obtain⟨is,vs,css,cs',g1,g2,g3,g4,g5⟩:=KV hS hl (qu ho);have hpl:Al P t=some pl:=by unfold Al;rw[hu];exact My hp
            have:=aF.build (ty:=ty) (ρ:=ev e) (w:=w) (R:=fun v w'=>w'=w/\(Sv.s (.agg l)).R ν H v) hpl (fV hT) (by simp) g1 g2 g3 g4 ⟨rfl,cs',rfl,g5⟩;simpa using this
          . cases h
        . cases h
      . cases h
    . rename_i n el hd;split at h
      . rename_i E hE;split at h
        . rename_i hsz;have hsz:=dI hsz;have hu:=gx hT;rw[hd]at hu;split at h
          . rename_i hp;split at h
            . rename_i ho;cases h;obtain rfl:parts=#[]:=by rw[<-tj (xs:=parts)];exact congrArg _ hp
              exact LT.look fun ν H e w hv ht hO hS=>aF.Rm (zc:=T.z.cells.toList) hu (fV hT) (by simp) (fV hE) ⟨rfl,_,rfl,qu ho⟩
            . cases h
          . rename_i p ps hp;split at h
            . rename_i hn;split at h
              . rename_i l hl;cases h;rw[fI]at hn;have hn2:=dI hn.2;obtain rfl:parts=(p::ps).toArray:=by rw[<-tj (xs:=parts)];exact congrArg _ hp
                refine LT.look fun ν H e w hv ht hO hS=>?_;obtain⟨vs,css,g1,g2,g3,g4⟩:=HC hS 0 hl hn.1;refine aF.ON (zc:=T.z.cells.toList) hu (fV hT) (by simp) (fV hE) ?_ g1 g2 ⟨rfl,_,rfl,g3⟩;rw[g4,cv,hn2];simpa using hsz
              . cases h
            . cases h
        . cases h
      . cases h
    . cases h
  . cases h
 |_=>simp only[au]at h;cases h
end
open Go Go.RowKit Go.X
variable [eW]
section
variable {P:Program} {l:List Oper} {n:Nat}
theorem anyJ{J:(Nat->Bool)->Env->World->Prop}{Qp:Exit->Act->World->Prop}(hok:lX n l=true)(hb:sZ l=true)
 (step:∀(D:Nat->Bool) (i:Nat) (o:Oper) (e:Env) (w:World),l[i]?=some o->D i=false->(∀d∈eX o,D d=true)->(∀j oj,l[j]?=some oj->D j=true->∀d∈eX oj,D d=true)->J D e w->kH P l o e w fun v w'=>J (fun j=>D j||Nat.beq j i) (jJ e o.dst v) w')
 (hQ:∀(D:Nat->Bool) (a:Act) (w:World),(∀i,i<l.length->D i=true)->a.tmps.size=n->a.defers=[]->J D (cN a) w->Qp .normal a w):
 ∀(fuel:Nat) (listed:Array Bool) (a:Act) (w:World),listed.size=l.length->a.tmps.size=n->a.defers=[]->(∀j oj,l[j]?=some oj->eT listed j->∀d∈eX oj,eT listed d)->J (fun j=>listed.getD j false) (cN a) w->ia l listed<=fuel->wpAny P .any l.toArray Qp fuel listed a w:=by
 have fin:∀(listed:Array Bool) (a:Act) (w:World),listed.size=l.length->a.tmps.size=n->a.defers=[]->J (fun j=>listed.getD j false) (cN a) w->Region.ready .any l.toArray listed=[]->Qp .normal a w:=by
  intro listed a w hs h1 h2 hJ hr;have hal:=Om hs hb hr;exact hQ _ a w (fun i hi=>hal i hi) h1 h2 hJ
 intro fuel
 induction fuel with
 |zero=>
  intro listed a w hs h1 h2 hcl hJ hc;have hr:Region.ready .any l.toArray listed=[]:=by
   apply List.eq_nil_iff_forall_not_mem.2;intro i hi;obtain⟨g1,o,g2,_⟩:=mem_ready.1 hi;have hil:i<l.length:=by
    rw[vL]at g2;exact(dS.1 g2).1
   have:=Oo (by omega:ia l listed=0) hil;rw[g1]at this;cases this
  exact⟨hr,fin listed a w hs h1 h2 hJ hr⟩
 |succ fuel ih=>
  intro listed a w hs h1 h2 hcl hJ hc;refine⟨fun hr=>fin listed a w hs h1 h2 hJ hr,fun i hi=>?_⟩;have hil:i<l.length:=by
   obtain⟨_,o,g2,_⟩:=mem_ready.1 hi;rw[vL]at g2;exact(dS.1 g2).1
  have ho:l[i]?=some l[i]:=bV hil;obtain⟨hun,hdeps⟩:=T0 hi ho;have hnl:¬eT listed i:=(unl hs hil).2 hun;have hcn:=Un hs hil hun;have hdd:∀o,o∈l->∀d,o.dst=some d->d<a.tmps.size:=by rw[h1];exact zl hok
  have hst:=step (fun j=>listed.getD j false) i l[i] (cN a) w ho (by cases hb2:listed.getD i false with
   |false=>rfl
   |true=>exact absurd hb2 hnl) hdeps hcl hJ
  refine Qa hdd ho hst fun v w' hv=>?_;refine ih _ _ w' (by simp[hs]) (by rw[oH];exact h1) (by rw[qP];exact h2) (PW hs hil hcl hdeps) ?_ (by omega);have e1:(fun j=>(listed.setIfInBounds i true).getD j false)=fun j=>listed.getD j false||Nat.beq j i:=by
   funext j;have hh:=Hg (l:=l) hs (i:=i) (j:=j) hil;unfold eT at hh;cases hb3:listed.getD j false with
   |true=>rw[hh.2 (.inl hb3)];rfl
   |false=>
    cases hb4:Nat.beq j i with
    |true=>rw[hh.2 (.inr (dI hb4))];rfl
    |false=>
     cases hb5:(listed.setIfInBounds i true).getD j false with
     |false=>rfl
     |true=>
      rcases hh.1 hb5 with h|h
      . rw[hb3]at h;cases h
      . subst h;rw[qR]at hb4;cases hb4
  rw[e1,vG a h1 (fun k hk=>by rw[<-h1];exact hdd _ (ni ho) k hk)];exact hv
theorem cx.drawJ{id:Nat}{k:List It}{Qr:Env->World->Prop}{e:Env}{w:World}{J:(Nat->Bool)->Env->World->Prop}(hm:P.follows .mixedOrders=true)(hok:lX n l=true)(hb:sZ l=true)
 (h0:∀w1,w1.os=w.os->w1.tape=w.tape->w1.output=w.output->w1.heap=w.heap->J (fun _=>false) e w1)
 (step:∀(D:Nat->Bool) (i:Nat) (o:Oper) (e:Env) (w:World),l[i]?=some o->D i=false->(∀d∈eX o,D d=true)->(∀j oj,l[j]?=some oj->D j=true->∀d∈eX oj,D d=true)->J D e w->kH P l o e w fun v w'=>J (fun j=>D j||Nat.beq j i) (jJ e o.dst v) w')
 (hQ:∀(D:Nat->Bool) (e:Env) (w:World),(∀i,i<l.length->D i=true)->J D e w->cx P n k Qr e w):cx P n (.code (.region id l.toArray true)::k) Qr e w:=by
 intro a h1 h2 h3;subst h3;refine wp_region_any hm ?_;have hno:∀j,¬eT (Array.replicate l.toArray.size false) j:=fun j hj=>by unfold eT at hj;rw[getD_replicate_false]at hj;cases hj
 refine anyJ (J:=J) hok hb step (fun D a' w' hD g1 g2 g3=>⟨g1,g2,hQ D _ _ hD g3⟩) l.toArray.size (Array.replicate l.toArray.size false) a _ (by simp) h1 h2 (fun j oj _ hj=>absurd hj (hno j)) ?_ ?_
 . have e1:(fun j=>(Array.replicate l.toArray.size false).getD j false)=fun _=>false:=by
    funext j;rw[getD_replicate_false]
   rw[e1];exact h0 _ rfl rfl rfl rfl
 . unfold ia;refine bO (tp _ _) (by simp)
end
open Go Go.RowKit Go.X
variable [eW]
structure Ev:Type 1 where
 rd:List Nat
 ro:List Nat
 nx:Nat
 dst:Option Nat
 sv:Option Sv
 ef:Ef
def mJ(d:Option Nat)(sv:Option Sv)(sl:List (Nat×Option Sv)):List (Nat×Option Sv):=match d with
 |some d=>(d,sv)::sl
 |none=>sl
abbrev Ev.su(ev:Ev):List (Nat×Option Sv):=mJ ev.dst ev.sv ev.ef.sl
abbrev Ev.ks(ev:Ev):List Nat:=ev.ef.up.map (·.1)
def fO(D:Nat->Bool):Nat->List Ev->OF->OF
 |_,[],f=>f
 |j,ev::r,f=>fO D (j+1) r (bif D j then bJ ev.ef.up f else f)
def fS(D:Nat->Bool):Nat->List Ev->SF->SF
 |_,[],f=>f
 |j,ev::r,f=>fS D (j+1) r (bif D j then bJ ev.su f else f)
abbrev Tr:Nat->Bool:=fun _=>true
section
variable {D D':Nat->Bool}
theorem DM:∀{l:List Ev} {j:Nat} {f g:OF} {x:Nat},f x=g x->fO D j l f x=fO D j l g x
 |[],_,_,_,_,h=>h
 |ev::r,j,f,g,x,h=>by
  show fO D (j+1) r _ x=fO D (j+1) r _ x;apply DM;cases D j with
  |false=>exact h
  |true=>
   show bJ ev.ef.up f x=bJ ev.ef.up g x;cases hm:cr x ev.ks with
   |true=>exact qb hm
   |false=>rw[jY hm,jY hm];exact h
theorem Dx:∀{l1 l2:List Ev} {j:Nat} {f:OF},fO D j (l1++l2) f=fO D (j+l1.length) l2 (fO D j l1 f)
 |[],_,_,_=>rfl
 |ev::r,l2,j,f=>by
  show fO D (j+1) (r++l2) _=fO D (j+(r.length+1)) l2 (fO D (j+1) r _);rw[Dx,show j+1+r.length=j+(r.length+1) by omega]
theorem sQ:∀{l:List Ev} {j:Nat} {f:OF} {x:Nat},(∀i ev,l[i]?=some ev->D (j+i)=D' (j+i)\/cr x ev.ks=false)->fO D j l f x=fO D' j l f x
 |[],_,_,_,_=>rfl
 |ev::r,j,f,x,h=>by
  show fO D (j+1) r _ x=fO D' (j+1) r _ x;rw[sQ (l:=r) (j:=j+1) (fun i ev' hi=>by
   have:=h (i+1) ev' (by simpa using hi);rwa[show j+(i+1)=j+1+i by omega]at this)]
  apply DM;rcases h 0 ev rfl with h|h
  . rw[show j+0=j from rfl]at h;rw[h]
  . have h1:∀b:Bool,(bif b then bJ ev.ef.up f else f) x=f x:=fun b=>by cases b with
     |true=>exact jY h
     |false=>rfl
    rw[h1,h1]
theorem Df:∀{l:List Ev} {j:Nat} {f g:SF} {x:Nat},f x=g x->fS D j l f x=fS D j l g x
 |[],_,_,_,_,h=>h
 |ev::r,j,f,g,x,h=>by
  show fS D (j+1) r _ x=fS D (j+1) r _ x;apply Df;cases D j with
  |false=>exact h
  |true=>
   show bJ ev.su f x=bJ ev.su g x;cases hm:cr x (ev.su.map (·.1))with
   |true=>exact qb hm
   |false=>rw[jY hm,jY hm];exact h
theorem Cz:∀{l1 l2:List Ev} {j:Nat} {f:SF},fS D j (l1++l2) f=fS D (j+l1.length) l2 (fS D j l1 f)
 |[],_,_,_=>rfl
 |ev::r,l2,j,f=>by
  show fS D (j+1) (r++l2) _=fS D (j+(r.length+1)) l2 (fS D (j+1) r _);rw[Cz,show j+1+r.length=j+(r.length+1) by omega]
theorem sJ:∀{l:List Ev} {j:Nat} {f:SF} {x:Nat},(∀i ev,l[i]?=some ev->D (j+i)=D' (j+i)\/cr x (ev.su.map (·.1))=false)->fS D j l f x=fS D' j l f x
 |[],_,_,_,_=>rfl
 |ev::r,j,f,x,h=>by
  show fS D (j+1) r _ x=fS D' (j+1) r _ x;rw[sJ (l:=r) (j:=j+1) (fun i ev' hi=>by
   have:=h (i+1) ev' (by simpa using hi);rwa[show j+(i+1)=j+1+i by omega]at this)]
  apply Df;rcases h 0 ev rfl with h|h
  . rw[show j+0=j from rfl]at h;rw[h]
  . have h1:∀b:Bool,(bif b then bJ ev.su f else f) x=f x:=fun b=>by cases b with
     |true=>exact jY h
     |false=>rfl
    rw[h1,h1]
end
structure En where
 rd:Nat
 ro:Nat
 nx:Nat
 ne:Nat
 dst:Nat
 ks:Nat
def iv:List Nat->Nat
 |[]=>0
 |x::r=>(1<<<x)|||iv r
theorem AH:∀{l:List Nat} {x:Nat},Nat.testBit (iv l) x=cr x l
 |[],x=>by simp[iv,cr]
 |y::r,x=>by
  show Nat.testBit ((1<<<y)|||iv r) x=(Nat.beq x y||cr x r);rw[Gm,AH,Nat.testBit_shiftLeft];congr 1;cases hb:Nat.beq x y with
  |true=>
   have:=dI hb;subst this;simp
  |false=>
   have hne:x≠y:=by rintro rfl;rw[qR]at hb;cases hb
   cases h1:decide (x≥y)with
   |false=>rfl
   |true=>
    have:=of_decide_eq_true h1;rw[Bool.true_and];cases h2:Nat.testBit 1 (x-y)with
    |false=>rfl
    |true=>rw[U0]at h2;omega
def mF:List Nat->Nat->Nat
 |[],a=>a
 |x::r,a=>mF r (a|||(1<<<(0+x)))
theorem Aa:∀{l:List Nat} {a x:Nat},Nat.testBit (mF l a) x=(Nat.testBit a x||cr x l)
 |[],a,x=>by simp[mF,cr]
 |y::r,a,x=>by
  show Nat.testBit (mF r (a|||(1<<<(0+y)))) x=(Nat.testBit a x||(Nat.beq x y||cr x r));have h1:Nat.testBit (1<<<(0+y)) x=Nat.beq x y:=by
   have:=AH (l:=[y]) (x:=x);simp only[iv,Nat.or_zero,cr,Bool.or_false]at this;rw[eK];exact this
  rw[Aa,Gm,h1,Bool.or_assoc]
structure Er where
 rd:Nat
 ro:List Nat
 nx:Nat
 ne:Nat
 dst:Nat
 dl:List Nat
 ks:List Nat
def Er.en(e:Er):En:=⟨e.rd,mF e.ro 0,0+e.nx,0+e.ne,mF e.dl e.dst,mF e.ks 0⟩
def Ev.er(ev:Ev):Er:=⟨iv ev.rd,ev.ro,ev.nx,ev.nx+ev.ef.n,iv ev.dst.toList,ev.ef.sl.map (·.1),ev.ks⟩
abbrev Ev.en(ev:Ev):En:=ev.er.en
theorem Iz{ev:Ev}{x:Nat}:Nat.testBit ev.en.rd x=cr x ev.rd:=AH
theorem JN{ev:Ev}{x:Nat}:Nat.testBit ev.en.ro x=cr x ev.ro:=by show Nat.testBit (mF ev.ro 0) x=_;rw[Aa];simp
theorem yT{ev:Ev}{x:Nat}:Nat.testBit ev.en.ks x=cr x ev.ks:=by show Nat.testBit (mF ev.ks 0) x=_;rw[Aa];simp
theorem BU{ev:Ev}{x:Nat}:Nat.testBit ev.en.dst x=cr x (ev.su.map (·.1)):=by
 show Nat.testBit (mF (ev.ef.sl.map (·.1)) (iv ev.dst.toList)) x=_;rw[Aa,AH];unfold Ev.su mJ;cases ev.dst<;>simp[cr]
theorem tY{a b x:Nat}(h:Nat.beq (a&&&b) 0=true)(hx:Nat.testBit a x=true):Nat.testBit b x=false:=by
 have h:=dI h;have h1:Nat.testBit (a&&&b) x=false:=by rw[h];simp
 rw[Nat.testBit_and,hx,Bool.true_and]at h1;exact h1
def nR(a b:En):Bool:=Nat.beq (b.ro&&&a.ks) 0&&Nat.beq (b.ks&&&a.ks) 0&&Nat.beq (a.ro&&&b.ks) 0&&Nat.beq (b.rd&&&a.dst) 0&&Nat.beq (a.rd&&&b.dst) 0&&Nat.beq (a.dst&&&b.dst) 0
theorem uG{a b:Ev}(h:nR a.en b.en=true):(∀x∈b.ro,cr x a.ks=false)/\(∀x∈b.ks,cr x a.ks=false)/\(∀x∈a.ro,cr x b.ks=false)/\(∀x∈b.rd,cr x (a.su.map (·.1))=false)/\(∀x∈a.rd,cr x (b.su.map (·.1))=false)/\∀x∈a.su.map (·.1),cr x (b.su.map (·.1))=false:=by
 simp only[nR,fI]at h;obtain⟨⟨⟨⟨⟨h1,h2⟩,h3⟩,h4⟩,h5⟩,h6⟩:=h;refine⟨fun x hx=>?_,fun x hx=>?_,fun x hx=>?_,fun x hx=>?_,fun x hx=>?_,fun x hx=>?_⟩
 . rw[<-yT];exact tY h1 (by rw[JN];exact ja.2 hx)
 . rw[<-yT];exact tY h2 (by rw[yT];exact ja.2 hx)
 . rw[<-yT];exact tY h3 (by rw[JN];exact ja.2 hx)
 . rw[<-BU];exact tY h4 (by rw[Iz];exact ja.2 hx)
 . rw[<-BU];exact tY h5 (by rw[Iz];exact ja.2 hx)
 . rw[<-BU];exact tY h6 (by rw[BU];exact ja.2 hx)
def uP(acc:List Nat)(ds:List Nat):Nat:=ds.foldl (fun m d=>m|||(1<<<d)|||acc.getD d 0) 0
def vm:List Nat->List (List Nat)->List Nat
 |acc,[]=>acc
 |acc,ds::r=>vm (acc++[uP acc ds]) r
def Fj(m i:Nat):Bool:=Nat.beq (Nat.land (Nat.shiftRight m i) 1) 1
theorem Nx{m i:Nat}:Fj m i=Nat.testBit m i:=by
 unfold Fj Nat.testBit;show Nat.beq ((m>>>i)&&&1) 1=(1&&&(m>>>i)!=0);rw[Nat.and_comm 1,Nat.and_one_is_mod];rcases Nat.mod_two_eq_zero_or_one (m>>>i)with h|h<;>rw[h]<;>rfl
def oN:Nat->List En->List Nat->Bool
 |_,[],_=>true
 |i,a::r,ms=>match ms with
  |[]=>false
  |_::ms=>chkR i a r ms&&oN (i+1) r ms
where chkR (i:Nat) (a:En):List En->List Nat->Bool
 |[],_=>true
 |b::r,ms=>match ms with
  |[]=>false
  |m::ms=>Nat.ble a.ne b.nx&&(Fj m i||nR a b)&&chkR i a r ms
def pT(m nE:Nat)(all:List Oper)(es:List En):Bool:=(Nat.beq es.length all.length&&Nat.ble m nE)&&sZ all&&(all.all fun o=>!J9 o.op)&&(es.all fun e=>Nat.ble m e.nx&&Nat.ble e.ne nE)&&oN 0 es (vm [] (all.map eX))
def fB:Nat->(Nat->Bool)->Bool
 |0,K=>K 0
 |n+1,K=>K (n+1)
theorem yq{n:Nat}{K:Nat->Bool}:fB n K=K n:=by cases n<;>rfl
def CA:List Nat->Nat->(List Nat->Bool)->Bool
 |[],m,K=>K [m]
 |x::r,m,K=>CA r m fun r'=>K (x::r')
theorem Hl:∀{l:List Nat} {m:Nat} {K:List Nat->Bool},CA l m K=K (l++[m])
 |[],_,_=>rfl
 |_::r,_,_=>Hl (l:=r)
def Ff:List Nat->List (List Nat)->(List Nat->Bool)->Bool
 |acc,[],K=>K acc
 |acc,ds::r,K=>fB (uP acc ds) fun m=>CA acc m fun acc'=>Ff acc' r K
theorem IV:∀{r:List (List Nat)} {acc:List Nat} {K:List Nat->Bool},Ff acc r K=K (vm acc r)
 |[],_,_=>rfl
 |ds::r,acc,K=>by show fB _ _=_;rw[yq,Hl,IV (r:=r)];rfl
def Fu:Nat->List En->List Nat->Bool
 |_,[],_=>true
 |i,a::r,ms=>match ms with
  |[]=>false
  |_::ms=>oN.chkR i a r ms&&fB (i+1) fun i=>Fu i r ms
theorem K9:∀{es:List En} {i:Nat} {ms:List Nat},Fu i es ms=oN i es ms
 |[],_,_=>rfl
 |a::r,i,[]=>rfl
 |a::r,i,m::ms=>by show(_&&fB _ _)=_;rw[yq,K9 (es:=r)];rfl
def cB:Nat->Nat->(Nat->Bool)->Bool
 |0,a,K=>K a
 |n+1,a,K=>cB n (a+1) K
theorem BA:∀{n a:Nat} {K:Nat->Bool},cB n a K=K (a+n)
 |0,_,_=>rfl
 |n+1,a,K=>by show cB n (a+1) K=_;rw[BA,show a+1+n=a+(n+1) by omega]
def cLB:List Nat->Nat->(Nat->Bool)->Bool
 |[],a,K=>K a
 |x::r,a,K=>cB x 0 fun x=>fB (a|||(1<<<x)) fun a=>cLB r a K
theorem Ko:∀{l:List Nat} {a:Nat} {K:Nat->Bool},cLB l a K=K (mF l a)
 |[],_,_=>rfl
 |x::r,a,K=>by show cB x 0 _=_;rw[BA,yq,Ko];rfl
def CV:List Er->(List En->Bool)->Bool
 |[],K=>K []
 |e::r,K=>fB e.rd fun rd=>cLB e.ro 0 fun ro=>cB e.nx 0 fun nx=>fB nx fun nx=>cB e.ne 0 fun ne=>fB ne fun ne=>fB e.dst fun d=>cLB e.dl d fun dst=>cLB e.ks 0 fun ks=>CV r fun es=>K (⟨rd,ro,nx,ne,dst,ks⟩::es)
theorem Iq:∀{l:List Er} {K:List En->Bool},CV l K=K (l.map Er.en)
 |[],_=>rfl
 |e::r,K=>by
  show fB e.rd _=_;simp only[yq,BA,Ko];rw[Iq (l:=r)];rfl
def Ew(m nE:Nat)(all:List Oper)(es:List Er):Bool:=cB m 0 fun m=>fB m fun m=>cB nE 0 fun nE=>fB nE fun nE=>CV es fun es=>(Nat.beq es.length all.length&&Nat.ble m nE)&&sZ all&&(all.all fun o=>!J9 o.op)&&(es.all fun e=>Nat.ble m e.nx&&Nat.ble e.ne nE)&&Ff [] (all.map eX) fun ms=>Fu 0 es ms
theorem RT{m nE:Nat}{all:List Oper}{es:List Er}:Ew m nE all es=pT m nE all (es.map Er.en):=by
 unfold Ew pT;simp only[BA,yq,Iq,IV,K9,eK]
theorem L9{acc:List Nat}{i:Nat}:∀{ds:List Nat} {m:Nat},Nat.testBit (ds.foldl (fun m d=>m|||(1<<<d)|||acc.getD d 0) m) i=true->Nat.testBit m i=true\/∃d∈ds,d=i\/Nat.testBit (acc.getD d 0) i=true
 |[],m,h=>.inl h
 |d::r,m,h=>by
  rcases L9 (ds:=r) h with h|⟨d',h1,h2⟩
  . rw[Gm,Gm,vP,vP]at h;rcases h with(h|h)|h
    . exact .inl h
    . refine .inr ⟨d,cO,.inl ?_⟩;rw[Nat.testBit_shiftLeft,fI,U0]at h;have h1:=of_decide_eq_true h.1;omega
    . exact .inr ⟨d,cO,.inr h⟩
  . exact .inr ⟨d',cJ _ h1,h2⟩
theorem Ha{dl:List (List Nat)}{cl:Nat->Prop}:∀{r:List (List Nat)} {acc done:List (List Nat)} {am:List Nat},dl=done++r->am.length=done.length->
 (∀(j:Nat),j<done.length->∀(i:Nat),Nat.testBit (am.getD j 0) i=true->i∈dl.getD j []\/∃d∈dl.getD j [],Nat.testBit (am.getD d 0) i=true/\d<done.length)->
 (∀(j:Nat) (ds:List Nat),dl[j]?=some ds->∀d∈ds,d<j)->
 ∀(j:Nat),j<dl.length->∀(i:Nat),Nat.testBit ((vm am r).getD j 0) i=true->i∈dl.getD j []\/∃d∈dl.getD j [],Nat.testBit ((vm am r).getD d 0) i=true
 |[],acc,done,am,hd,hl,h,hb=>fun j hj i hi=>by
  rw[lK]at hd;subst hd;rcases h j hj i hi with h|⟨d,h1,h2,_⟩
  . exact .inl h
  . exact .inr ⟨d,h1,h2⟩
 |ds::r,acc,done,am,hd,hl,h,hb=>by
  intro j hj i hi;have key:=Ha (dl:=dl) (cl:=cl) (r:=r) (acc:=acc) (done:=done++[ds]) (am:=am++[uP am ds]) (by rw[hd];simp) (by simp[hl]) ?_ hb j hj i hi
  . exact key
  . intro j hj i hi;have hds:dl[done.length]?=some ds:=by rw[hd];simp
    rcases cw j done.length with h1|h1
    . have e1:(am++[uP am ds]).getD j 0=am.getD j 0:=by simp[cA,jZ (show j<am.length by omega)]
      rw[e1]at hi;rcases h j h1 i hi with h2|⟨d,h2,h3,h4⟩
      . exact .inl h2
      . exact .inr ⟨d,h2,by simpa[cA,jZ (show d<am.length by omega)]using h3,by simp;omega⟩
    . have e0:j=done.length:=by simp at hj;omega
      subst e0;have e1:(am++[uP am ds]).getD done.length 0=uP am ds:=by rw[<-hl];simp[cA]
      rw[e1]at hi;have e2:dl.getD done.length []=ds:=by rw[cA,hds];rfl
      rw[e2];rcases L9 hi with h2|⟨d,h2,h3⟩
      . simp at h2
      . rcases h3 with h3|h3
        . subst h3;exact .inl h2
        . have hlt:=hb _ _ hds d h2;exact .inr ⟨d,h2,by simpa[cA,jZ (show d<am.length by omega)]using h3,by simp;omega⟩
theorem I0{all:List Oper}{D:Nat->Bool}(hb:sZ all=true)(hcl:∀j oj,all[j]?=some oj->D j=true->∀d∈eX oj,D d=true):
 ∀(j:Nat) (oj:Oper) (i:Nat),all[j]?=some oj->(∀d∈eX oj,D d=true)->Nat.testBit ((vm [] (all.map eX)).getD j 0) i=true->D i=true:=by
 have hb':∀(j:Nat) (ds:List Nat),(all.map eX)[j]?=some ds->∀d∈ds,d<j:=by
  intro j ds h d hd;rw[gR]at h;cases ho:all[j]?with
  |none=>rw[ho]at h;cases h
  |some o=>rw[ho]at h;cases h;exact zu hb ho hd
 have key:=Ha (dl:=all.map eX) (cl:=fun _=>True) (r:=all.map eX) (acc:=[]) (done:=[]) (am:=[]) rfl rfl (fun(j:Nat) (hj:j<0)=>absurd hj (by simp)) hb';intro j
 induction j using Nat.strongRecOn with
 |_ j ih=>
  intro oj i ho hd hi;have hj:j<(all.map eX).length:=by rw[cD];exact(dS.1 ho).1
  have e1:(all.map eX).getD j []=eX oj:=by rw[cA,gR,ho];rfl
  rcases key j hj i hi with h|⟨d,h1,h2⟩
  . rw[e1]at h;exact hd i h
  . rw[e1]at h1;have hlt:=zu hb ho h1;have hdl:d<all.length:=by rw[cD]at hj;omega
    have hdo:all[d]?=some all[d]:=bV hdl;exact ih d hlt all[d] i hdo (hcl d _ hdo (hd d h1)) h2
theorem I1{i:Nat}{a:En}:∀{r:List En} {ms:List Nat},oN.chkR i a r ms=true->∀(k:Nat) (b:En),r[k]?=some b->∃m,ms[k]?=some m/\a.ne<=b.nx/\(Nat.testBit m i=true\/nR a b=true)
 |[],_,_,k,b,h=>by simp at h
 |x::r,[],h,_,_,_=>by cases h
 |x::r,m::ms,h,k,b,hb=>by
  simp only[oN.chkR,fI,vP]at h;cases k with
  |zero=>simp at hb;subst hb;exact⟨m,rfl,kx h.1.1,by rw[<-Nx];exact h.1.2⟩
  |succ k=>
   obtain⟨m',h1,h2⟩:=I1 h.2 k b (by simpa using hb);exact⟨m',by simpa using h1,h2⟩
theorem Ik:∀{es:List En} {i:Nat} {ms:List Nat},oN i es ms=true->∀(p q:Nat) (a b:En),es[p]?=some a->es[q]?=some b->p<q->∃m,ms[q]?=some m/\a.ne<=b.nx/\(Nat.testBit m (i+p)=true\/nR a b=true)
 |[],_,_,_,p,q,a,b,h,_,_=>by simp at h
 |x::r,_,[],h,_,_,_,_,_,_,_=>by cases h
 |x::r,i,_::ms,h,p,q,a,b,hp,hq,hlt=>by
  simp only[oN,fI]at h;cases q with
  |zero=>omega
  |succ q=>
   have hq':r[q]?=some b:=by simpa using hq
   cases p with
   |zero=>
    simp at hp;subst hp;obtain⟨m,h1,h2⟩:=I1 h.1 q b hq';exact⟨m,by simpa using h1,h2⟩
   |succ p=>
    obtain⟨m,h1,h2⟩:=Ik h.2 p q a b (by simpa using hp) hq' (by omega);rw[show i+1+p=i+(p+1) by omega]at h2;exact⟨m,by simpa using h1,h2⟩
theorem za{ms:List Nat}{es:List En}(h:oN 0 es ms=true)(p q:Nat)(a b:En)(hp:es[p]?=some a)(hq:es[q]?=some b)(hlt:p<q):a.ne<=b.nx/\(Nat.testBit (ms.getD (0+q) 0) (0+p)=true\/nR a b=true):=by
 obtain⟨m,h1,h2⟩:=Ik h p q a b hp hq hlt;rw[eK q,cA,h1];exact h2
open Go Go.RowKit Go.X
variable [eW]
structure Fx where
 n:Nat
 Q:Env->World->Prop
 X:Nat->Prop
 w0:World
 H0:Bool->Hp
 m:Nat
 ν0:Nu
def St(F:Fx)(L:SS)(e:Env)(w:World):Prop:= ∃ν,(∀k,L.nx<=k->ν k=none)/\F.m<=L.nx/\(∀k,k<F.m->ν k=F.ν0 k)/\cI F.X F.w0 F.H0 ν (aQ L.bC) w/\di ν (HF F.X F.w0 F.H0 ν (aQ L.bC) w) (aQ L.bP) e
def SS.lG(L:SS)(ef:Ef):SS:=⟨L.nx+ef.n,ef.up++L.bC,ef.sl++L.bP⟩
def SS.set(L:SS)(d:Nat)(s:Option Sv):SS:=⟨L.nx,L.bC,(d,s)::L.bP⟩
def SS.mf(L:SS):Option Nat->Option Sv->SS
 |some d,s=>L.set d s
 |none,_=>L
theorem H3{L:SS}{d:Nat}{s:Option Sv}:aQ (L.set d s).bP=xj (aQ L.bP) d s:=rfl
theorem p5{L:SS}{d:Option Nat}{s:Option Sv}:aQ (L.mf d s).bP=Dh (aQ L.bP) d s:=by cases d<;>rfl
theorem kE{L:SS}{d:Option Nat}{s:Option Sv}:(L.mf d s).bC=L.bC/\(L.mf d s).nx=L.nx:=by cases d<;>exact⟨rfl,rfl⟩
theorem pD{L:SS}{ef:Ef}:aQ (L.lG ef).bC=bJ ef.up (aQ L.bC):=by funext t;exact qK _ _ _
theorem ry{L:SS}{ef:Ef}:aQ (L.lG ef).bP=bJ ef.sl (aQ L.bP):=by funext t;exact qK _ _ _
theorem di.ap{ν:Nu}{H:Bool->Hp}{f:SF}{e:Env}{l:List (Nat×Option Sv)}(h:di ν H f e)(hl:di ν H (aQ l) e):di ν H (bJ l f) e:=by
 intro t sv ht;cases hm:cr t (l.map (·.1))with
 |false=>rw[jY hm]at ht;exact h t sv ht
 |true=>
  refine hl t sv ?_;have:bJ l f t=bJ l (aQ []) t:=qb hm;rw[<-qK,lK]at this;rw[<-this];exact ht
inductive Md where
 |rg (all r:List Oper) (kn:List (Nat×Bool))
 |sw
def apn{α:Type 1}:List α->List α->List α
 |[],r=>r
 |x::l,r=>x::(l++r)
theorem QD{α:Type 1}{l r:List α}:apn l r=l++r:=by cases l<;>rfl
def addN(n:Nat):Nat->Nat
 |0=>n
 |m+1=>n+(m+1)
theorem TU{n m:Nat}:addN n m=n+m:=by cases m<;>rfl
def j3(L:SS)(ef:Ef)(d:Option Nat)(sv:Option Sv)(K:SS->Prop):Prop:=match L with
 |⟨n,os,ss⟩=>match ef with
  |⟨m,up,sl⟩=>match d with
   |some d=>K ⟨addN n m,apn up os,(d,sv)::apn sl ss⟩
   |none=>K ⟨addN n m,apn up os,apn sl ss⟩
theorem nu{L:SS}{ef:Ef}{d:Option Nat}{sv:Option Sv}{K:SS->Prop}(h:j3 L ef d sv K):K ((L.lG ef).mf d sv):=by
 obtain⟨n,os,ss⟩:=L;obtain⟨m,up,sl⟩:=ef;cases d<;>simp only[j3,QD,TU]at h<;>exact h
def yj(L:SS)(d:Nat)(s:Option Sv)(K:SS->Prop):Prop:=match L with
 |⟨n,os,ss⟩=>K ⟨n,os,(d,s)::ss⟩
theorem AK{L:SS}{d:Nat}{s:Option Sv}{K:SS->Prop}(h:yj L d s K):K (L.set d s):=h
def BC:Bool->(Bool->Prop)->Prop
 |true,K=>K true
 |false,K=>K false
theorem JK:∀{x:Bool} {K:Bool->Prop},BC x K->K x
 |true,_,h=>h
 |false,_,h=>h
structure ju {P:Program}(tb:List (dF P))(F:Fx)(k:List It)(L:SS):Prop where
 ok:∀e w,St F L e w->cx P F.n k F.Q e w
structure RlN {P:Program}(tb:List (dF P))(F:Fx)(all r:List Oper)(k:List It)(L:SS):Prop where
 ok:∀e w,St F L e w->Rl P all r (cx P F.n k F.Q) e w
structure bZ {P:Program}(tb:List (dF P))(o:Oper)(L:SS)(K:Ef->Option Sv->Prop):Prop where
 ok:∃ef sv,LT P L o.op o.type ef sv/\K ef sv
structure uj {P:Program}(tb:List (dF P))(F:Fx)(L:SS):Prop where
 ok:∀e w,St F L e w->F.Q e w
structure tN {P:Program}(tb:List (dF P))(F:Fx)(J:Env->World->Prop)(L:SS):Prop where
 ok:∀e w,St F L e w->J e w
def oU{P:Program}(tb:List (dF P))(o:Oper)(L:SS)(K:Ef->Option Sv->Prop):Prop:=match au tb L o.op with
 |some (ef,sv)=>K ef sv
 |none=>bZ tb o L K
theorem zV{P:Program}{tb:List (dF P)}{o:Oper}{L:SS}{K:Ef->Option Sv->Prop}(h:oU tb o L K):∃ef sv,LT P L o.op o.type ef sv/\K ef sv:=by
 unfold oU at h;split at h
 . rename_i ef sv hau;exact⟨ef,sv,au_ok hau,h⟩
 . exact h.ok
def JG:List Oper->Bool
 |[]=>true
 |o::r=>match o.guard with
  |none=>JG r
  |some _=>false
def sS:Bool->Bool->Bool
 |true,b=>b
 |false,true=>false
 |false,false=>true
theorem nO{x b:Bool}:sS x b=(x==b):=by cases x<;>cases b<;>rfl
def Em:List (Nat×Bool)->Nat->Option Bool
 |[],_=>none
 |(d,s)::r,t=>bif Nat.beq t d then some s else Em r t
def Gst{P:Program}(tb:List (dF P))(F:Fx)(ih:Md->List It->SS->Prop):Md->List It->SS->Prop
 |.rg all [] _,k,L=>ih .sw k L
 |.rg all (o::r) kn,k,L=>match o.guard with
  |none=>oU tb o L fun ef sv=>j3 L ef o.dst sv fun L=>ih (.rg all r kn) k L
  |some (j,b)=>match mg all j with
   |some dj=>match aQ L.bP dj with
    |some (.s (.lf (.v (.bool x))))=>match Em kn j with
     |some x'=>match sS x x' with
      |true=>match sS x' b with
       |true=>oU tb o L fun ef sv=>j3 L ef o.dst sv fun L=>ih (.rg all r kn) k L
       |false=>j3 L .z o.dst (some (.fC [])) fun L=>ih (.rg all r kn) k L
      |false=>RlN tb F all (o::r) k L
     |none=>BC x fun x'=>match sS x' b with
      |true=>yj L dj (eE (.bool x')) fun L=>oU tb o L fun ef sv=>j3 L ef o.dst sv fun L=>ih (.rg all r ((j,x')::kn)) k L
      |false=>yj L dj (eE (.bool x')) fun L=>j3 L .z o.dst (some (.fC [])) fun L=>ih (.rg all r ((j,x')::kn)) k L
    |some (.fC [])=>j3 L .z o.dst (some (.fC [])) fun L=>ih (.rg all r kn) k L
    |_=>RlN tb F all (o::r) k L
   |none=>RlN tb F all (o::r) k L
 |.sw,[],L=>uj tb F L
 |.sw,.dt _::k,L=>ih .sw k L
 |.sw,.scp::k,L=>ih .sw k L
 |.sw,.back J::_,L=>tN tb F J L
 |.sw,.code c::k,L=>match c with
  |.skip=>ih .sw k L
  |.label _=>ih .sw k L
  |.seq a b=>ih .sw (.code a::.code b::k) L
  |.region i ops false=>match JG ops.toList with
   |true=>match lX F.n ops.toList with
    |true=>ih (.rg ops.toList ops.toList []) k L
    |false=>ju tb F (.code (.region i ops false)::k) L
   |false=>ju tb F (.code (.region i ops false)::k) L
  |.exit i=>match rQ i k with
   |some k'=>ih .sw k' L
   |none=>ju tb F (.code (.exit i)::k) L
  |.ret=>uj tb F L
  |c=>ju tb F (.code c::k) L
def mdN{P:Program}(tb:List (dF P))(F:Fx):Md->List It->SS->Prop
 |.sw,k,L=>ju tb F k L
 |.rg all r _,k,L=>RlN tb F all r k L
noncomputable def G{P:Program}(tb:List (dF P))(F:Fx)(f:Nat):Md->List It->SS->Prop:=Nat.rec (motive:=fun _=>Md->List It->SS->Prop) (mdN tb F) (fun _ ih=>Gst tb F ih) f
section
variable {F:Fx} {L:SS} {e:Env} {w:World}
theorem St.fact(h:St F L e w){t:Nat}{v:Value}(hs:aQ L.bP t=some (.s (.lf (.v v)))):e t=v/\one v=true:=by
 obtain⟨ν,_,_,_,_,h4⟩:=h;exact h4 t _ hs
theorem GZ{f:SF}{d:Nat}{s:Option Sv}(h:f d=s):xj f d s=f:=by
 funext t;show(bif Nat.beq t d then s else f t)=f t;cases hb:Nat.beq t d with
 |false=>rfl
 |true=>rw[dI hb,h];rfl
theorem St.known(h:St F L e w){t:Nat}{v:Value}(hs:aQ L.bP t=some (.s (.lf (.v v)))){v':Value}(hv:v=v'):St F (L.set t (eE v')) e w:=by
 obtain⟨ν,h1,h2,h3,h4,h5⟩:=h;subst hv;refine⟨ν,h1,h2,h3,h4,?_⟩;rw[H3,GZ (show aQ L.bP t=eE v from hs)];exact h5
theorem St.skip0(h:St F L e w){o:Oper}{l:List Oper}(d:Option Nat):St F (L.mf d (some (.fC []))) (jJ e d undef) w:=by
 obtain⟨ν,h1,h2,h3,h4,h5⟩:=h;refine⟨ν,by rw[kE.2];exact h1,by rw[kE.2];exact h2,h3,by rw[kE.1];exact h4,?_⟩;rw[p5,kE.1];exact h5.mf (s:=some (.fC [])) ⟨[],rfl,rfl⟩
theorem rh:L.lG .z=L:=by
 obtain⟨n,os,ss⟩:=L;rfl
theorem St.skip(h:St F L e w){o:Oper}{l:List Oper}(d:Option Nat):St F ((L.lG .z).mf d (some (.fC []))) (jJ e d undef) w:=by
 rw[rh];exact h.skip0 (o:=o) (l:=l) d
theorem St.step{P:Program}{op:Op}{ty:TypeId}{ef:Ef}{sv:Option Sv}(h:St F L e w)(hl:LT P L op ty ef sv)(d:Option Nat):aF P op ty (ev e) w fun v w'=>St F ((L.lG ef).mf d sv) (jJ e d v) w':=by
 obtain⟨ν,h1,h2,h3,h4,h5⟩:=h;refine(hl.ok F.X F.w0 F.H0 ν (aQ L.bC) e w (fun _ _ h=>h) (fun k hk _=>h1 k hk) h4 h5).mono ?_;rintro v w' ⟨ν',g1,g2,g3,g3',g4⟩;refine⟨ν',fun k hk=>?_,?_,fun k hk=>?_,?_,?_⟩
 . rw[kE.2]at hk;have hk:L.nx+ef.n<=k:=hk;rw[g1 k (.inr hk)];exact h1 k (by omega)
 . rw[kE.2];show F.m<=L.nx+ef.n;omega
 . rw[g1 k (.inl (by omega))];exact h3 k hk
 . rw[kE.1,pD];exact g2
 . rw[kE.1,p5,pD,ry];exact((h5.mono (g1.le fun k hk _=>h1 k hk) g3).ap g3').mf g4
end
section
variable {P:Program} {tb:List (dF P)} {F:Fx}
theorem Pa{all:List Oper}{o:Oper}{r:List Oper}{K:Env->World->Prop}{e:Env}{w:World}(hw:iE all o e=true)(h:aF P o.op o.type (ev e) w fun v w'=>Rl P all r K (jJ e o.dst v) w'):Rl P all (o::r) K e w:=by
 simp only[Rl,hw];exact h
theorem DK{all:List Oper}{o:Oper}{r:List Oper}{K:Env->World->Prop}{e:Env}{w:World}(hw:iE all o e=false)(h:Rl P all r K (jJ e o.dst undef) w):Rl P all (o::r) K e w:=by
 simp only[Rl,hw];exact h
theorem Cs{all:List Oper}{o:Oper}{j dj:Nat}{b x:Bool}{e:Env}(hg:o.guard=some (j,b))(hj:mg all j=some dj)(he:e dj=.bool x):iE all o e=(x==b):=by
 unfold iE;rw[hg];show gy all e j b=_;unfold gy;rw[hj];simp[he]
theorem G1{all:List Oper}{o:Oper}{j dj:Nat}{b:Bool}{e:Env}(hg:o.guard=some (j,b))(hj:mg all j=some dj)(he:e dj=undef):iE all o e=false:=by
 unfold iE;rw[hg];show gy all e j b=_;unfold gy;rw[hj];simp[he,undef]
theorem Ie{ν:Nu}{H:Bool->Hp}{v:Value}(h:(Sv.fC []).R ν H v):v=undef:=by
 obtain⟨vs,g1,g2⟩:=h;rw[g1,show vs=[] from g2];rfl
theorem G_ok:∀(f:Nat) (m:Md) (k:List It) (L:SS),G tb F f m k L->mdN tb F m k L:=by
 intro f
 induction f with
 |zero=>intro m k L h;cases m<;>exact h
 |succ f ih=>
  intro m k L h;have h:Gst tb F (G tb F f) m k L:=h;cases m with
  |rg all r kn=>
   cases r with
   |nil=>exact⟨fun e w hs=>Rl.nil ((ih .sw k L h).ok e w hs)⟩
   |cons o r=>
    refine⟨fun e w hs=>?_⟩;have opK:∀{L:SS} {kn:List (Nat×Bool)},St F L e w->iE all o e=true->oU tb o L (fun ef sv=>j3 L ef o.dst sv fun L=>G tb F f (.rg all r kn) k L)->Rl P all (o::r) (cx P F.n k F.Q) e w:=by
     intro L kn hs hw h;obtain⟨ef,sv,hl,hk⟩:=zV h;exact Pa hw ((hs.step hl o.dst).mono fun v w' hv=>(ih _ _ _ (nu hk)).ok _ _ hv)
    simp only[Gst]at h;split at h
    . rename_i hg;exact opK hs (by unfold iE;rw[hg]) h
    . rename_i j b hg;split at h
      . rename_i dj hj;split at h
        . rename_i x hx;have he:=(hs.fact hx).1;split at h
          . rename_i x' _;split at h
            . rename_i hk0;have e0:x=x':=by
               rw[nO]at hk0;simpa using hk0
              subst e0;have hw:=Cs hg hj he;split at h
              . rename_i hk;exact opK hs (by rw[hw,<-nO];exact hk) h
              . rename_i hk;exact DK (by rw[hw,<-nO];exact hk) ((ih _ _ _ (nu h)).ok _ _ (hs.skip (o:=o) (l:=all) o.dst))
            . exact h.ok e w hs
          . have h:=JK h;have hs':=hs.known hx rfl;have hw:=Cs hg hj he;split at h
            . rename_i hk;exact opK hs' (by rw[hw,<-nO];exact hk) (AK h)
            . rename_i hk;exact DK (by rw[hw,<-nO];exact hk) ((ih _ _ _ (nu (AK h))).ok _ _ (hs'.skip (o:=o) (l:=all) o.dst))
        . rename_i hx;have he:e dj=undef:=by
           obtain⟨ν,_,_,_,_,h4⟩:=hs;exact Ie (h4 dj _ hx)
          exact DK (G1 hg hj he) ((ih _ _ _ (nu h)).ok _ _ (hs.skip (o:=o) (l:=all) o.dst))
        . exact h.ok e w hs
      . exact h.ok e w hs
  |sw=>
   refine⟨fun e w hs=>?_⟩;cases k with
   |nil=>exact h.ok e w hs
   |cons x k=>
    cases x with
    |dt i=>exact(ih .sw k L h).ok e w hs
    |scp=>exact(ih .sw k L h).ok e w hs
    |back J=>exact h.ok e w hs
    |code c=>
     simp only[Gst]at h;split at h
     . exact cx.skip ((ih .sw k L h).ok e w hs)
     . exact cx.label ((ih .sw k L h).ok e w hs)
     . exact cx.seq ((ih .sw _ L h).ok e w hs)
     . split at h
       . split at h
         . rename_i i ops _ _ hf _ hd;have:=cx.region (id:=i) (k:=k) (Q:=F.Q) (e:=e) (w:=w) (P:=P) hd ((ih (.rg ops.toList ops.toList []) k L h).ok e w hs);simpa using this
         . exact h.ok e w hs
       . exact h.ok e w hs
     . split at h
       . rename_i k' hk;exact cx.exit hk ((ih .sw k' L h).ok e w hs)
       . exact h.ok e w hs
     . exact cx.ret (h.ok e w hs)
     . exact h.ok e w hs
end
abbrev tS:Nat:=1000000
section
variable {P:Program} (tb:List (dF P)) (F:Fx)
abbrev Gr(all r:List Oper)(k:List It)(L:SS):Prop:=G tb F tS (.rg all r []) k L
abbrev Gs(k:List It)(L:SS):Prop:=G tb F tS .sw k L
end
section
variable {P:Program} {tb:List (dF P)} {F:Fx} {all r:List Oper} {k:List It} {L:SS}
theorem Gr.ok(h:Gr tb F all r k L):RlN tb F all r k L:=G_ok tS _ k L h
theorem Gs.ok(h:Gs tb F k L):ju tb F k L:=G_ok tS _ k L h
end
open Go Go.RowKit Go.X
variable [eW]
def idsL:Lf->List Nat
 |.own i=>[i]
 |.ptr i _=>[i]
 |.mp i=>[i]
 |.sg i _ _ _=>[i]
 |.ap i _ _ _=>[i]
 |_=>[]
def uv:List Lf->List Nat
 |[]=>[]
 |l::r=>idsL l++uv r
def idsS:S1->List Nat
 |.lf l=>idsL l
 |.agg l=>uv l
def Lt:List S1->List Nat
 |[]=>[]
 |l::r=>idsS l++Lt r
def Fi:Option Sv->List Nat
 |some (.s x)=>idsS x
 |some (.fC l)=>Lt l
 |some (.pr _ c _)=>uv c
 |some (.pw i _ _ _ _ _)=>[i]
 |some (.fc _ ps)=>ps
 |some (.pa i _ _ _ _ _ _)=>[i]
 |none=>[]
def needO:Op->Bool
 |.move _=>false
 |.assign _=>false
 |.pick .. =>false
 |.unOp .. =>false
 |.binOp .. =>false
 |.extract .. =>false
 |.fieldAddr .. =>false
 |.build .. =>false
 |.nilCheck _=>false
 |.field .. =>false
 |.box .. =>false
 |_=>true
def Fh(L:SS):List Nat->List Nat
 |[]=>[]
 |t::r=>Fi (aQ L.bP t)++Fh L r
def idsB(g:OF):List Nat->List Nat
 |[]=>[]
 |i::r=>i::((match g i with
  |some (.box l)=>uv l
  |_=>[])++idsB g r)
def needB:Op->Bool
 |.call .. =>true
 |_=>false
def oq(L:SS)(op:Op)(ts:List Nat):List Nat:=bif needO op then(bif needB op then idsB (aQ L.bC) (Fh L ts)else Fh L ts)else[]
def tX{α:Type 1}(g:Nat->Option α):List Nat->List (Nat×Option α)
 |[]=>[]
 |i::r=>(i,g i)::tX g r
def xw(L:SS)(op:Op)(ts:List Nat):SS:=⟨L.nx,tX (aQ L.bC) (oq L op ts),tX (aQ L.bP) ts⟩
theorem C9{α:Type 1}{g:Nat->Option α}:∀{l:List Nat} {i:Nat},aQ (tX g l) i=bif cr i l then g i else none
 |[],_=>rfl
 |j::r,i=>by
  show(bif Nat.beq i j then g j else aQ (tX g r) i)=bif (Nat.beq i j||cr i r)then g i else none;cases hb:Nat.beq i j with
  |true=>rw[dI hb];rfl
  |false=>rw[C9 (l:=r)];rfl
structure DkN {P:Program}(tb:List (dF P))(F:Fx)(n0:Nat)(all:List Oper)(k:List It)(acc:List Er)(L:SS):Prop where
 ok:pT n0 L.nx all (acc.reverse.map Er.en)=true/\Gs tb F k L
theorem qs{d:Option Nat}{sv:Option Sv}{sl:List (Nat×Option Sv)}{f:SF}:bJ (mJ d sv sl) f=Dh (bJ sl f) d sv:=by cases d<;>rfl
def GDs{P:Program}(tb:List (dF P))(F:Fx)(n0:Nat)(all:List Oper)(k:List It)(ih:List (Nat×Bool)->List Oper->List Er->SS->Prop):List (Nat×Bool)->List Oper->List Er->SS->Prop
 |_,[],acc,L=>DkN tb F n0 all k acc L
 |kn,o::r,acc,L=>match o.guard with
  |none=>oU tb o (xw L o.op (eM all o)) fun ef sv=>j3 L ef o.dst sv fun L'=>ih kn r (⟨iv (eM all o),oq L o.op (eM all o),L.nx,L.nx+ef.n,iv o.dst.toList,ef.sl.map (·.1),ef.up.map (·.1)⟩::acc) L'
  |some (j,b)=>match mg all j with
   |some dj=>match aQ L.bP dj with
    |some (.s (.lf (.v (.bool x))))=>match Em kn j with
     |some x'=>match sS x x' with
      |true=>match sS x' b with
       |true=>oU tb o (xw L o.op (eM all o)) fun ef sv=>j3 L ef o.dst sv fun L'=>ih kn r (⟨iv (eM all o),oq L o.op (eM all o),L.nx,L.nx+ef.n,iv o.dst.toList,ef.sl.map (·.1),ef.up.map (·.1)⟩::acc) L'
       |false=>j3 L .z o.dst (some (.fC [])) fun L'=>ih kn r (⟨iv (eM all o),[],L.nx,L.nx+0,iv o.dst.toList,[],[]⟩::acc) L'
      |false=>False
     |none=>BC x fun x'=>match sS x' b with
      |true=>yj L dj (eE (.bool x')) fun L=>oU tb o (xw L o.op (eM all o)) fun ef sv=>j3 L ef o.dst sv fun L'=>ih ((j,x')::kn) r (⟨iv (eM all o),oq L o.op (eM all o),L.nx,L.nx+ef.n,iv o.dst.toList,ef.sl.map (·.1),ef.up.map (·.1)⟩::acc) L'
      |false=>yj L dj (eE (.bool x')) fun L=>j3 L .z o.dst (some (.fC [])) fun L'=>ih ((j,x')::kn) r (⟨iv (eM all o),[],L.nx,L.nx+0,iv o.dst.toList,[],[]⟩::acc) L'
    |some (.fC [])=>j3 L .z o.dst (some (.fC [])) fun L'=>ih kn r (⟨iv (eM all o),[],L.nx,L.nx+0,iv o.dst.toList,[],[]⟩::acc) L'
    |_=>False
   |none=>False
noncomputable def GD{P:Program}(tb:List (dF P))(F:Fx)(n0:Nat)(all:List Oper)(k:List It)(f:Nat):List (Nat×Bool)->List Oper->List Er->SS->Prop:=Nat.rec (motive:=fun _=>List (Nat×Bool)->List Oper->List Er->SS->Prop) (fun _ _ _ _=>False) (fun _ ih=>GDs tb F n0 all k ih) f
section
variable {P:Program} {tb:List (dF P)} {F:Fx} {all:List Oper} {k:List It}
structure xC (P:Program)(all:List Oper)(gS:SF)(gO:OF)(ev:Ev)(o:Oper):Prop where
 ok:∀(X:Nat->Prop) (w0:World) (H0:Bool->Hp) (ν:Nu) (oF:OF) (e:Env) (w:World),(∀j ob,cr j ev.ro=true->gO j=some ob->oF j=some ob)->(∀k,ev.nx<=k->k<ev.nx+ev.ef.n->ν k=none)->cI X w0 H0 ν oF w->di ν (HF X w0 H0 ν oF w) (fun t=>bif cr t ev.rd then gS t else none) e->
  kH P all o e w fun v w'=>∃ν',iz ev.nx ev.ef.n ν ν'/\cI X w0 H0 ν' (bJ ev.ef.up oF) w'/\(∀κ,Le (HF X w0 H0 ν oF w κ) (HF X w0 H0 ν' (bJ ev.ef.up oF) w' κ))/\∀f:SF,di ν' (HF X w0 H0 ν' (bJ ev.ef.up oF) w') f e->di ν' (HF X w0 H0 ν' (bJ ev.ef.up oF) w') (bJ ev.su f) (jJ e o.dst v)
theorem Fl{L:SS}{o:Oper}{ef:Ef}{sv:Option Sv}(hl:LT P (xw L o.op (eM all o)) o.op o.type ef sv)(hw:∀(ν:Nu) (H:Bool->Hp) (e:Env),di ν H (fun t=>bif cr t (eM all o)then aQ L.bP t else none) e->iE all o e=true):
 xC P all (aQ L.bP) (aQ L.bC) ⟨eM all o,oq L o.op (eM all o),L.nx,o.dst,sv,ef⟩ o:=by
 refine⟨fun X w0 H0 ν oF e w ho hn hS hs=>?_⟩;unfold kH;rw[hw ν _ e hs];refine(hl.ok X w0 H0 ν oF e w (fun i ob hi=>?_) hn hS ?_).mono ?_
 . have hi:aQ (tX (aQ L.bC) (oq L o.op (eM all o))) i=some ob:=hi;rw[C9]at hi;cases hm:cr i (oq L o.op (eM all o))with
   |false=>rw[hm]at hi;cases hi
   |true=>rw[hm]at hi;exact ho i ob hm hi
 . have e1:aQ (xw L o.op (eM all o)).bP=fun t=>bif cr t (eM all o)then aQ L.bP t else none:=by funext t;exact C9
   rw[e1];exact hs
 . rintro v w' ⟨ν',g1,g2,g3,g4,g5⟩;exact⟨ν',g1,g2,g3,fun f hf=>by show di _ _ (bJ (mJ _ _ _) f) _;rw[qs];exact(hf.ap g4).mf g5⟩
theorem CE{L:SS}{o:Oper}(hw:∀(ν:Nu) (H:Bool->Hp) (e:Env),di ν H (fun t=>bif cr t (eM all o)then aQ L.bP t else none) e->iE all o e=false):
 xC P all (aQ L.bP) (aQ L.bC) ⟨eM all o,[],L.nx,o.dst,some (.fC []),.z⟩ o:=by
 refine⟨fun X w0 H0 ν oF e w ho hn hS hs=>?_⟩;unfold kH;rw[hw ν _ e hs];exact⟨ν,iz.refl,hS,fun _=>Le.refl _,fun f hf=>by show di _ _ (bJ (mJ _ _ _) f) _;rw[qs];exact hf.mf (s:=some (.fC [])) ⟨[],rfl,rfl⟩⟩
theorem OH{o:Oper}{j dj:Nat}{b:Bool}(hg:o.guard=some (j,b))(hj:mg all j=some dj):cr dj (eM all o)=true:=by
 refine ja.2 ?_;unfold eM;rw[hg];dsimp only;rw[hj];exact vR _ (by simp)
def q9(P:Program)(all:List Oper)(gS:SF)(gO:OF)(evs:List Ev)(ops:List Oper):Prop:=evs.length=ops.length/\∀(i:Nat) (ev:Ev) (o:Oper),evs[i]?=some ev->ops[i]?=some o->xC P all (fS Tr 0 (evs.take i) gS) (fO Tr 0 (evs.take i) gO) ev o
theorem q9.snoc{gS:SF}{gO:OF}{evs:List Ev}{ops:List Oper}{ev:Ev}{o:Oper}(h:q9 P all gS gO evs ops)(h':xC P all (fS Tr 0 evs gS) (fO Tr 0 evs gO) ev o):q9 P all gS gO (evs++[ev]) (ops++[o]):=by
 refine⟨by simp[h.1],fun i ev' o' h1 h2=>?_⟩;rcases cw i evs.length with hi|hi
 . rw[jZ hi]at h1;rw[jZ (by rw[<-h.1];exact hi)]at h2;rw[qU (B7 hi)];exact h.2 i ev' o' h1 h2
 . have hi':i=evs.length:=by
    have:=(dS.1 h1).1;simp at this;omega
   subst hi';rw[ou (bK _),vN]at h1;rw[h.1,ou (bK _),vN]at h2;simp at h1 h2;subst h1;subst h2;rw[qU (bK _),tq];exact h'
theorem TP{gS:SF}{evs:List Ev}{ev:Ev}:fS Tr 0 (evs++[ev]) gS=bJ ev.su (fS Tr 0 evs gS):=by rw[Cz];rfl
theorem Ox{gO:OF}{evs:List Ev}{ev:Ev}:fO Tr 0 (evs++[ev]) gO=bJ ev.ef.up (fO Tr 0 evs gO):=by rw[Dx];rfl
theorem GD_ok{n0:Nat}{gS:SF}{gO:OF}:∀(f:Nat) (kn:List (Nat×Bool)) (r:List Oper) (acc:List Er) (L:SS) (done:List Oper) (evs:List Ev),all=done++r->evs.map Ev.er=acc.reverse->q9 P all gS gO evs done->aQ L.bP=fS Tr 0 evs gS->aQ L.bC=fO Tr 0 evs gO->
    GD tb F n0 all k f kn r acc L->∃evs' L',q9 P all gS gO evs' all/\pT n0 L'.nx all (evs'.map Ev.en)=true/\Gs tb F k L'/\aQ L'.bP=fS Tr 0 evs' gS/\aQ L'.bC=fO Tr 0 evs' gO:=by
  intro f
  induction f with
  |zero=>intro kn r acc L done evs _ _ _ _ _ h;exact h.elim
  |succ f ih=>
    intro kn r acc L done evs hall hen hev hsl hob h;have h:GDs tb F n0 all k (GD tb F n0 all k f) kn r acc L:=h;cases r with
    |nil=>
      rw[lK]at hall;obtain⟨h1,h2⟩:=h.ok;exact⟨evs,L,by rw[hall];rw[hall]at hev;exact hev,by rw[<-hen,mq]at h1;exact h1,h2,hsl,hob⟩
    |cons o r=>
      have go:∀(kn:List (Nat×Bool)) (L1:SS) (ev:Ev) (L2:SS),aQ L1.bP=aQ L.bP->aQ L1.bC=aQ L.bC->xC P all (aQ L1.bP) (aQ L1.bC) ev o->aQ L2.bP=bJ ev.su (aQ L1.bP)->aQ L2.bC=bJ ev.ef.up (aQ L1.bC)->GD tb F n0 all k f kn r (ev.er::acc) L2->
          ∃evs' L',q9 P all gS gO evs' all/\pT n0 L'.nx all (evs'.map Ev.en)=true/\Gs tb F k L'/\aQ L'.bP=fS Tr 0 evs' gS/\aQ L'.bC=fO Tr 0 evs' gO:=by
        intro kn L1 ev L2 q1 q2 q3 q4 q5 q6;rw[q1,q2,hsl,hob]at q3;refine ih kn r _ L2 (done++[o]) (evs++[ev]) (by rw[hall];simp) (by simp[hen]) (hev.snoc q3) ?_ ?_ q6
        . rw[q4,q1,hsl,TP]
        . rw[q5,q2,hob,Ox]
      simp only[GDs]at h;split at h
      . rename_i hg;obtain⟨ef,sv,hl,hk⟩:=zV h;refine go _ L ⟨eM all o,oq L o.op (eM all o),L.nx,o.dst,sv,ef⟩ _ rfl rfl (Fl hl fun ν H e hs=>by unfold iE;rw[hg]) ?_ ?_ (nu hk)
        . show _=bJ (mJ _ _ _) _;rw[p5,ry,qs]
        . rw[kE.1,pD]
      . rename_i j b hg;split at h
        . rename_i dj hj;have hmj:=OH hg hj;split at h
          . rename_i x hx;have e0:aQ (L.set dj (eE (.bool x))).bP=aQ L.bP:=by rw[H3,GZ (show aQ L.bP dj=eE (.bool x) from hx)]
            have hwt:∀(L1:SS),aQ L1.bP=aQ L.bP->∀(ν:Nu) (H:Bool->Hp) (e:Env),di ν H (fun t=>bif cr t (eM all o)then aQ L1.bP t else none) e->iE all o e=(x==b):=by
              intro L1 h1 ν H e hs;have:=hs dj (.s (.lf (.v (.bool x)))) (by show(bif cr dj _ then aQ L1.bP dj else none)=_;rw[h1,hmj];exact hx);exact Cs hg hj this.1
            split at h
            . rename_i x' _;split at h
              . rename_i hk0;have e1:x=x':=by
                  rw[nO]at hk0;simpa using hk0
                subst e1;split at h
                . rename_i hk;obtain⟨ef,sv,hl,hkk⟩:=zV h;refine go _ L ⟨eM all o,oq L o.op (eM all o),L.nx,o.dst,sv,ef⟩ _ rfl rfl (Fl hl fun ν H e hs=>by rw[hwt _ rfl ν H e hs,<-nO];exact hk) ?_ ?_ (nu hkk)
                  . show _=bJ (mJ _ _ _) _;rw[p5,ry,qs]
                  . rw[kE.1,pD]
                . rename_i hk;refine go _ L ⟨eM all o,[],L.nx,o.dst,some (.fC []),.z⟩ _ rfl rfl (CE fun ν H e hs=>by rw[hwt _ rfl ν H e hs,<-nO];exact hk) ?_ ?_ (nu h)
                  . show _=bJ (mJ _ _ _) _;rw[rh,p5,qs];rfl
                  . rw[rh,kE.1];rfl
              . exact h.elim
            . have h:=JK h;split at h
              . rename_i hk;obtain⟨ef,sv,hl,hkk⟩:=zV (AK h);refine go _ (L.set dj (eE (.bool x))) ⟨eM all o,oq (L.set dj (eE (.bool x))) o.op (eM all o),L.nx,o.dst,sv,ef⟩ _ e0 rfl (Fl hl fun ν H e hs=>by rw[hwt _ e0 ν H e hs,<-nO];exact hk) ?_ ?_ (nu hkk)
                . show _=bJ (mJ _ _ _) _;rw[p5,ry,qs]
                . rw[kE.1,pD]
              . rename_i hk;refine go _ (L.set dj (eE (.bool x))) ⟨eM all o,[],L.nx,o.dst,some (.fC []),.z⟩ _ e0 rfl (CE fun ν H e hs=>by rw[hwt _ e0 ν H e hs,<-nO];exact hk) ?_ ?_ (nu (AK h))
                . show _=bJ (mJ _ _ _) _;rw[rh,p5,qs];rfl
                . rw[rh,kE.1];rfl
          . rename_i hx;refine go _ L ⟨eM all o,[],L.nx,o.dst,some (.fC []),.z⟩ _ rfl rfl (CE fun ν H e hs=>?_) ?_ ?_ (nu h)
            . exact G1 hg hj (Ie (hs dj (.fC []) (by show(bif cr dj _ then aQ L.bP dj else none)=_;rw[hmj];exact hx)))
            . show _=bJ (mJ _ _ _) _;rw[rh,p5,qs];rfl
            . rw[rh,kE.1];rfl
          . exact h.elim
        . exact h.elim
def JD(F:Fx)(gS:SF)(gO:OF)(evs:List Ev)(nE:Nat)(D:Nat->Bool)(e:Env)(w:World):Prop:= ∃ν,cI F.X F.w0 F.H0 ν (fO D 0 evs gO) w/\di ν (HF F.X F.w0 F.H0 ν (fO D 0 evs gO) w) (fS D 0 evs gS) e/\(∀i ev,evs[i]?=some ev->D i=false->∀k,ev.nx<=k->k<ev.nx+ev.ef.n->ν k=none)/\(∀k,nE<=k->ν k=none)/\∀k,k<F.m->ν k=F.ν0 k
theorem EI{D:Nat->Bool}{evs:List Ev}{i:Nat}{ev:Ev}{f:OF}(h:evs[i]?=some ev):fO D 0 evs f=fO D (i+1) (evs.drop (i+1)) (bif D i then bJ ev.ef.up (fO D 0 (evs.take i) f)else fO D 0 (evs.take i) f):=by
 have hlt:=(dS.1 h).1;have h1:evs=evs.take i++ev::evs.drop (i+1):=by
  conv=>lhs;rw[<-nj i evs]
  rw[fD hlt,(dS.1 h).2]
 conv=>lhs;rw[h1]
 rw[Dx];have:(evs.take i).length=i:=by simp;omega
 rw[this,eK];rfl
theorem DB{D:Nat->Bool}{evs:List Ev}{i:Nat}{ev:Ev}{f:SF}(h:evs[i]?=some ev):fS D 0 evs f=fS D (i+1) (evs.drop (i+1)) (bif D i then bJ ev.su (fS D 0 (evs.take i) f)else fS D 0 (evs.take i) f):=by
 have hlt:=(dS.1 h).1;have h1:evs=evs.take i++ev::evs.drop (i+1):=by
  conv=>lhs;rw[<-nj i evs]
  rw[fD hlt,(dS.1 h).2]
 conv=>lhs;rw[h1]
 rw[Cz];have:(evs.take i).length=i:=by simp;omega
 rw[this,eK];rfl
theorem P4{n0:Nat}(hn0:F.m<=n0){gS:SF}{gO:OF}{evs:List Ev}{nE:Nat}(hev:q9 P all gS gO evs all)(hc:pT n0 nE all (evs.map Ev.en)=true){D:Nat->Bool}{i:Nat}{o:Oper}{e:Env}{w:World}(ho:all[i]?=some o)(hD:D i=false)(hd:∀d∈eX o,D d=true)
 (hcl:∀j oj,all[j]?=some oj->D j=true->∀d∈eX oj,D d=true)(hJ:JD F gS gO evs nE D e w):kH P all o e w fun v w'=>JD F gS gO evs nE (fun j=>D j||Nat.beq j i) (jJ e o.dst v) w':=by
 simp only[pT,fI]at hc;obtain⟨⟨⟨⟨_,hb⟩,_⟩,hrg⟩,hce⟩:=hc;have hi:i<all.length:=(dS.1 ho).1;have hie:i<evs.length:=by rw[hev.1];exact hi
 obtain⟨ev,hevi⟩:∃ev,evs[i]?=some ev:=⟨_,bV hie⟩;have ev_ok:=hev.2 i ev o hevi ho;have en_at:∀{j:Nat} {q:Ev},evs[j]?=some q->(evs.map Ev.en)[j]?=some q.en:=fun h=>by rw[gR,h];rfl
 have rng:∀{j:Nat} {q:Ev},evs[j]?=some q->n0<=q.nx/\q.nx+q.ef.n<=nE:=by
  intro j q h;have:=tg.1 hrg q.en (ni (en_at h));simp only[fI]at this;have h1:n0<=0+q.nx:=kx this.1;have h2:0+(q.nx+q.ef.n)<=nE:=kx this.2;exact⟨by omega,by omega⟩
 have post:∀{j:Nat} {q:Ev},evs[j]?=some q->i<j->D j=true->nR ev.en q.en=true:=by
  intro j q h hlt hDj;rcases(za hce i j _ _ (en_at hevi) (en_at h) hlt).2 with h1|h1
  . rw[eK,eK]at h1;have hj:j<all.length:=by rw[<-hev.1];exact(dS.1 h).1
    have hjo:all[j]?=some all[j]:=bV hj;have:=I0 hb hcl j _ i hjo (hcl j _ hjo hDj) h1;rw[hD]at this;cases this
  . exact h1
 have pre:∀{j:Nat} {p:Ev},evs[j]?=some p->j<i->D j=true\/nR p.en ev.en=true:=by
  intro j p h hlt;rcases(za hce j i _ _ (en_at h) (en_at hevi) hlt).2 with h1|h1
  . rw[eK,eK]at h1;exact .inl (I0 hb hcl i o j ho hd h1)
  . exact .inr h1
 have symN:∀{x:Nat} {a b:List Nat},(∀y∈a,cr y b=false)->x∈b->cr x a=false:=by
  intro x a b h hx;cases hm:cr x a with
  |false=>rfl
  |true=>have:=h x (ja.1 hm);rw[ja.2 hx]at this;cases this
 have dropAt:∀{j:Nat} {q:Ev},(evs.drop (i+1))[j]?=some q->evs[i+1+j]?=some q:=fun h=>by rw[te]at h;exact h
 have takeAt:∀{j:Nat} {p:Ev},(evs.take i)[j]?=some p->j<i/\evs[j]?=some p:=by
  intro j p h;rw[vM]at h;split at h
  . exact⟨by assumption,h⟩
  . cases h
 have rdO:∀x,cr x ev.ro=true->fO D 0 evs gO x=fO Tr 0 (evs.take i) gO x:=by
  intro x hx;have hx:=ja.1 hx;rw[EI hevi,hD];have h1:fO D (i+1) (evs.drop (i+1)) (fO D 0 (evs.take i) gO) x=fO (fun _=>false) (i+1) (evs.drop (i+1)) (fO D 0 (evs.take i) gO) x:=by
   refine sQ fun j q hj=>?_;cases hDj:D (i+1+j)with
   |false=>exact .inl rfl
   |true=>exact .inr ((uG (post (dropAt hj) (by omega) hDj)).2.2.1 x hx)
  have h2:∀(l:List Ev) (j:Nat) (f:OF),fO (fun _=>false) j l f=f:=by
   intro l
   induction l with
   |nil=>intro j f;rfl
   |cons a r ih=>intro j f;exact ih (j+1) f
  show fO D (i+1) (evs.drop (i+1)) (fO D 0 (evs.take i) gO) x=_;rw[h1,h2];refine sQ fun j p hj=>?_;obtain⟨hlt,hp⟩:=takeAt hj;rw[eK];rcases pre hp hlt with h|h
  . exact .inl h
  . exact .inr ((uG h).1 x hx)
 have rdS:∀t,cr t ev.rd=true->fS D 0 evs gS t=fS Tr 0 (evs.take i) gS t:=by
  intro t ht;have ht:=ja.1 ht;rw[DB hevi,hD];have h1:fS D (i+1) (evs.drop (i+1)) (fS D 0 (evs.take i) gS) t=fS (fun _=>false) (i+1) (evs.drop (i+1)) (fS D 0 (evs.take i) gS) t:=by
   refine sJ fun j q hj=>?_;cases hDj:D (i+1+j)with
   |false=>exact .inl rfl
   |true=>exact .inr ((uG (post (dropAt hj) (by omega) hDj)).2.2.2.2.1 t ht)
  have h2:∀(l:List Ev) (j:Nat) (f:SF),fS (fun _=>false) j l f=f:=by
   intro l
   induction l with
   |nil=>intro j f;rfl
   |cons a r ih=>intro j f;exact ih (j+1) f
  show fS D (i+1) (evs.drop (i+1)) (fS D 0 (evs.take i) gS) t=_;rw[h1,h2];refine sJ fun j p hj=>?_;obtain⟨hlt,hp⟩:=takeAt hj;rw[eK];rcases pre hp hlt with h|h
  . exact .inl h
  . exact .inr ((uG h).2.2.2.1 t ht)
 obtain⟨ν,k1,k2,k3,k4,k5⟩:=hJ;have eO:fO (fun j=>D j||Nat.beq j i) 0 evs gO=bJ ev.ef.up (fO D 0 evs gO):=by
  funext x;rw[EI (D:=fun j=>D j||Nat.beq j i) hevi,EI (D:=D) hevi,hD,qR];have h1:fO (fun j=>D j||Nat.beq j i) 0 (evs.take i) gO=fO D 0 (evs.take i) gO:=by
   funext y;refine sQ fun j p hj=>.inl ?_;obtain⟨hlt,_⟩:=takeAt hj;rw[eK];have:Nat.beq j i=false:=by
    cases hb2:Nat.beq j i with
    |false=>rfl
    |true=>have:=dI hb2;omega
   simp[this]
  have h2:∀(f:OF),fO (fun j=>D j||Nat.beq j i) (i+1) (evs.drop (i+1)) f=fO D (i+1) (evs.drop (i+1)) f:=by
   intro f;funext y;refine sQ fun j p hj=>.inl ?_;have:Nat.beq (i+1+j) i=false:=by
    cases hb2:Nat.beq (i+1+j) i with
    |false=>rfl
    |true=>have:=dI hb2;omega
   simp[this]
  show fO _ (i+1) (evs.drop (i+1)) (bif false||true then bJ ev.ef.up (fO _ 0 (evs.take i) gO)else _) x=bJ ev.ef.up (fO D (i+1) (evs.drop (i+1)) (fO D 0 (evs.take i) gO)) x;rw[h2,h1];show fO D (i+1) (evs.drop (i+1)) (bJ ev.ef.up (fO D 0 (evs.take i) gO)) x=_;cases hm:cr x ev.ks with
  |false=>
   rw[jY hm];exact DM (jY hm)
  |true=>
   have hx:=ja.1 hm;have h3:∀(l:List Ev) (j:Nat) (f:OF),fO (fun _=>false) j l f=f:=by
    intro l
    induction l with
    |nil=>intro j f;rfl
    |cons a r ih=>intro j f;exact ih (j+1) f
   rw[show fO D (i+1) (evs.drop (i+1)) (bJ ev.ef.up (fO D 0 (evs.take i) gO)) x=fO (fun _=>false) (i+1) (evs.drop (i+1)) (bJ ev.ef.up (fO D 0 (evs.take i) gO)) x from by
    refine sQ fun j q hj=>?_;cases hDj:D (i+1+j)with
    |false=>exact .inl rfl
    |true=>exact .inr (symN (uG (post (dropAt hj) (by omega) hDj)).2.1 hx),h3]
   exact qb hm
 have eS:fS (fun j=>D j||Nat.beq j i) 0 evs gS=bJ ev.su (fS D 0 evs gS):=by
  funext x;rw[DB (D:=fun j=>D j||Nat.beq j i) hevi,DB (D:=D) hevi,hD,qR];have h1:fS (fun j=>D j||Nat.beq j i) 0 (evs.take i) gS=fS D 0 (evs.take i) gS:=by
   funext y;refine sJ fun j p hj=>.inl ?_;obtain⟨hlt,_⟩:=takeAt hj;rw[eK];have:Nat.beq j i=false:=by
    cases hb2:Nat.beq j i with
    |false=>rfl
    |true=>have:=dI hb2;omega
   simp[this]
  have h2:∀(f:SF),fS (fun j=>D j||Nat.beq j i) (i+1) (evs.drop (i+1)) f=fS D (i+1) (evs.drop (i+1)) f:=by
   intro f;funext y;refine sJ fun j p hj=>.inl ?_;have:Nat.beq (i+1+j) i=false:=by
    cases hb2:Nat.beq (i+1+j) i with
    |false=>rfl
    |true=>have:=dI hb2;omega
   simp[this]
  show fS _ (i+1) (evs.drop (i+1)) (bif false||true then bJ ev.su (fS _ 0 (evs.take i) gS)else _) x=bJ ev.su (fS D (i+1) (evs.drop (i+1)) (fS D 0 (evs.take i) gS)) x;rw[h2,h1];show fS D (i+1) (evs.drop (i+1)) (bJ ev.su (fS D 0 (evs.take i) gS)) x=_;cases hm:cr x (ev.su.map (·.1))with
  |false=>
   rw[jY hm];exact Df (jY hm)
  |true=>
   have hx:=ja.1 hm;have h3:∀(l:List Ev) (j:Nat) (f:SF),fS (fun _=>false) j l f=f:=by
    intro l
    induction l with
    |nil=>intro j f;rfl
    |cons a r ih=>intro j f;exact ih (j+1) f
   rw[show fS D (i+1) (evs.drop (i+1)) (bJ ev.su (fS D 0 (evs.take i) gS)) x=fS (fun _=>false) (i+1) (evs.drop (i+1)) (bJ ev.su (fS D 0 (evs.take i) gS)) x from by
    refine sJ fun j q hj=>?_;cases hDj:D (i+1+j)with
    |false=>exact .inl rfl
    |true=>exact .inr ((uG (post (dropAt hj) (by omega) hDj)).2.2.2.2.2 x hx),h3]
   exact qb hm
 refine(ev_ok.ok F.X F.w0 F.H0 ν (fO D 0 evs gO) e w (fun j ob hj hg=>by rw[rdO j hj];exact hg) (k3 i ev hevi hD) k1 ?_).mono ?_
 . intro t sv ht;have ht:(bif cr t ev.rd then fS Tr 0 (evs.take i) gS t else none)=some sv:=ht;cases hm:cr t ev.rd with
   |false=>rw[hm]at ht;cases ht
   |true=>rw[hm]at ht;exact k2 t sv (by rw[rdS t hm];exact ht)
 . rintro v w' ⟨ν',g1,g2,g3,g4⟩;have hle:=g1.le (k3 i ev hevi hD);refine⟨ν',by rw[eO];exact g2,?_,fun j q hq hDj k hk1 hk2=>?_,fun k hk=>?_,fun k hk=>?_⟩
   . rw[eO,eS];exact g4 _ (k2.mono hle g3)
   . simp only[Gf]at hDj;have hne:j≠i:=by rintro rfl;rw[qR]at hDj;cases hDj.2
     rw[g1 k,k3 j q hq hDj.1 k hk1 hk2];rcases cw j i with hlt|hge
     . have:=(za hce j i _ _ (en_at hq) (en_at hevi) hlt).1;have this:0+(q.nx+q.ef.n)<=0+ev.nx:=this;exact .inl (by omega)
     . have:=(za hce i j _ _ (en_at hevi) (en_at hq) (by omega)).1;have this:0+(ev.nx+ev.ef.n)<=0+q.nx:=this;exact .inr (by omega)
   . have:=(rng hevi).2;rw[g1 k (.inr (by omega))];exact k4 k hk
   . have:=(rng hevi).1;rw[g1 k (.inl (by omega))];exact k5 k hk
theorem GY{evs:List Ev}:∀{j:Nat} {f:OF},fO (fun _=>false) j evs f=f:=by
 induction evs with
 |nil=>intro j f;rfl
 |cons a r ih=>intro j f;exact ih
theorem fS_no{evs:List Ev}:∀{j:Nat} {f:SF},fS (fun _=>false) j evs f=f:=by
 induction evs with
 |nil=>intro j f;rfl
 |cons a r ih=>intro j f;exact ih
theorem dr{id:Nat}{L:SS}(hm:P.follows .mixedOrders=true)(h:GD tb F L.nx all k tS [] all [] L)(hd:lX F.n all=true:=by rfl):ju tb F (.code (.region id all.toArray true)::k) L:=by
 obtain⟨evs,L',hev,hc,hG,hsl,hob⟩:=GD_ok (all:=all) (gS:=aQ L.bP) (gO:=aQ L.bC) tS [] all [] L [] [] (by rfl:all=[]++all) rfl ⟨rfl,fun i ev o h=>by simp at h⟩ rfl rfl h;have hc':=hc;simp only[pT,fI]at hc';obtain⟨⟨⟨⟨⟨_,hn⟩,hb⟩,_⟩,hrg⟩,hce⟩:=hc';have hn:=kx hn;refine⟨fun e w hs=>?_⟩;obtain⟨ν,g1,g2,g3,g4,g5⟩:=hs;refine cx.drawJ (J:=JD F (aQ L.bP) (aQ L.bC) evs L'.nx) hm hd hb (fun w1 h1 h2 h3 h4=>?_) (fun D i o e w ho hD hdd hcl hJ=>P4 g2 hev hc ho hD hdd hcl hJ) (fun D e' w' hD hJ=>?_)
 . obtain⟨q1,q2⟩:=g4.same h1 h2 h3 h4;refine⟨ν,by rw[GY];exact q1,by rw[GY,fS_no,q2];exact g5,fun i ev hi _ k hk _=>g1 k ?_,fun k hk=>g1 k (by omega),g3⟩;have:=tg.1 hrg ev.en (dz.2 ⟨ev,ni hi,rfl⟩);simp only[fI]at this;have:=kx this.1;have:L.nx<=0+ev.nx:=this;omega
 . obtain⟨ν',q1,q2,q3,q4,q5⟩:=hJ;have e1:fO D 0 evs (aQ L.bC)=aQ L'.bC:=by
    rw[hob];funext x;refine sQ fun i ev hi=>.inl ?_;rw[eK];exact hD i (by rw[<-hev.1];exact(dS.1 hi).1)
   have e2:fS D 0 evs (aQ L.bP)=aQ L'.bP:=by
    rw[hsl];funext x;refine sJ fun i ev hi=>.inl ?_;rw[eK];exact hD i (by rw[<-hev.1];exact(dS.1 hi).1)
   rw[e1]at q1 q2;rw[e2]at q2;exact(Gs.ok hG).ok e' w' ⟨ν',q4,by omega,q5,q1,q2⟩
end
open Go Go.RowKit Go.X
variable [eW]
def iI:List Nat->Nat->Option Nat
 |[],_=>none
 |x::r,i=>bif Nat.beq x i then some 0 else match iI r i with
  |some j=>some (j+1)
  |none=>none
theorem lg:∀{l:List Nat} {i j:Nat},iI l i=some j->l[j]?=some i
 |[],_,_,h=>by cases h
 |x::r,i,j,h=>by
  unfold iI at h;cases hb:Nat.beq x i with
  |true=>rw[hb]at h;cases h;rw[dI hb];rfl
  |false=>
   rw[hb]at h;simp only[cond_false]at h;split at h
   . rename_i j' hj;cases h;simpa using lg hj
   . cases h
theorem FV:∀{l:List Nat} {i:Nat},iI l i=none->i∉l
 |[],_,_,h=>by cases h
 |x::r,i,h,hm=>by
  unfold iI at h;cases hb:Nat.beq x i with
  |true=>rw[hb]at h;cases h
  |false=>
   rw[hb]at h;simp only[cond_false]at h;rcases eb.1 hm with h1|h1
   . subst h1;simp at hb
   . split at h
     . cases h
     . rename_i hj;exact FV hj h1
def wk:Bool->Bool->Bool
 |true,κ=>κ
 |false,_=>false
def cvL(bC:OF)(ren:List Nat):Lf->Lf->Option Lf
 |.own i,.ro _ κ' _=>match iI ren i with
  |some _=>none
  |none=>match bC i with
   |some (.row r κ xs)=>some (.ro r (wk κ κ') xs)
   |_=>none
 |.own i,.ap _ _ κ' _=>match iI ren i with
  |some j=>match bC i with
   |some (.row r κ xs)=>some (.ap j r (wk κ κ') xs)
   |_=>none
  |none=>none
 |.own i,_=>match iI ren i with
  |some j=>some (.own j)
  |none=>none
 |.ap i r κ xs,.ap _ _ κ' _=>match iI ren i with
  |some j=>some (.ap j r (wk κ κ') xs)
  |none=>none
 |.ptr i o,_=>match iI ren i with
  |some j=>some (.ptr j o)
  |none=>none
 |.mp i,_=>match iI ren i with
  |some j=>some (.mp j)
  |none=>none
 |.sg i sz lo hi,_=>match iI ren i with
  |some j=>some (.sg j sz lo hi)
  |none=>none
 |.pd q,_=>some (.pd q)
 |.ro r κ xs,.ro _ κ' _=>some (.ro r (wk κ κ') xs)
 |.cp r κ xs,.ro _ κ' _=>some (.ro r (wk κ κ') xs)
 |.cp r κ xs,.cp _ κ' _=>some (.cp r (wk κ κ') xs)
 |.v (.slice none 0 0),.ro r κ _=>some (.ro r κ [])
 |.v x,_=>some (.v x)
 |_,_=>none
def vI(bC:OF)(ren:List Nat):List Lf->List Lf->Option (List Lf)
 |[],[]=>some []
 |a::r,b::s=>match cvL bC ren a b with
  |some x=>match vI bC ren r s with
   |some y=>some (x::y)
   |none=>none
  |none=>none
 |_,_=>none
def cvS(bC:OF)(ren:List Nat):S1->S1->Option S1
 |.lf a,.lf b=>match cvL bC ren a b with
  |some x=>some (.lf x)
  |none=>none
 |.agg a,.agg b=>match vI bC ren a b with
  |some x=>some (.agg x)
  |none=>none
 |_,_=>none
def wm(bC:OF)(ren:List Nat):List S1->List S1->Option (List S1)
 |[],[]=>some []
 |a::r,b::s=>match cvS bC ren a b with
  |some x=>match wm bC ren r s with
   |some y=>some (x::y)
   |none=>none
  |none=>none
 |_,_=>none
def cvV(bC:OF)(ren:List Nat):Sv->Sv->Option Sv
 |.s a,.s b=>match cvS bC ren a b with
  |some x=>some (.s x)
  |none=>none
 |.fC a,.fC b=>match wm bC ren a b with
  |some x=>some (.fC x)
  |none=>none
 |.pr κ a o,.pr κ' b _=>match vI bC ren a b with
  |some x=>some (.pr (wk κ κ') x o)
  |none=>none
 |_,_=>none
def tD(bC:OF)(ren:List Nat)(k:Nat):Ob->Ob->Option Ob
 |.row r κ xs,.row _ κ' _=>some (.row r (wk κ κ') xs)
 |.row r κ xs,.aG _ κ' _=>some (.aG r (wk κ κ') xs)
 |.aG r κ xs,.aG _ κ' _=>some (.aG r (wk κ κ') xs)
 |.box a,.box b=>match vI bC ren a b with
  |some x=>some (.box x)
  |none=>none
 |.map dk kf vf m,.map _ _ _ _=>some (.map dk kf vf m)
 |.deep j D xs [],.deep _ _ _ _=>match ren[k]?with
  |some i=>match Nat.beq i j with
   |true=>some (.deep k D xs [])
   |false=>none
  |none=>none
 |_,_=>none
def kY(bC:OF)(ren:List Nat):List (Nat×Option Ob)->Option (List (Nat×Option Ob))
 |[]=>some []
 |(k,some b)::r=>match ren[k]?with
  |some i=>match bC i with
   |some a=>match tD bC ren k a b with
    |some x=>match kY bC ren r with
     |some y=>some ((k,some x)::y)
     |none=>none
    |none=>none
   |none=>none
  |none=>none
 |(k,none)::r=>match kY bC ren r with
  |some y=>some ((k,none)::y)
  |none=>none
def nM(L:SS)(ren:List Nat):List (Nat×Option Sv)->Option (List (Nat×Option Sv))
 |[]=>some []
 |(t,some b)::r=>match aQ L.bP t with
  |some a=>match cvV (aQ L.bC) ren a b with
   |some x=>match nM L ren r with
    |some y=>some ((t,some x)::y)
    |none=>none
   |none=>none
  |none=>none
 |(_,none)::_=>none
def dV(ν:Nu)(ren:List Nat):Nu:=⟨fun k=>(ren[k]?).bind ν.f,ν.tl,ν.tc⟩
def eu:Nat->List Ob->List (Nat×Option Ob)
 |_,[]=>[]
 |i,x::r=>(i,some x)::eu (i+1) r
def aW(n:Nat)(cT:List Ob)(bP:List (Nat×Option Sv)):SS:=⟨n,eu 0 cT,bP⟩
section
variable {ν:Nu} {ren:List Nat} {bC:OF} {H H':Bool->Hp}
theorem kd{j i:Nat}{x:Option Nat×Nat×Nat}(h:ren[j]?=some i)(hx:ν i=some x):dV ν ren j=some x:=by
 show(ren[j]?).bind ν.f=some x;rw[h];exact hx
theorem qe{k:Nat}:dV ν ren k=(ren[k]?).bind ν.f:=rfl
theorem vc{k i:Nat}(h:ren[k]?=some i):dt (dV ν ren) k=dt ν i:=by unfold dt;rw[qe,h];rfl
theorem mQ(hw:Le (H' true) (H' false))(hH:∀κ,Le (H κ) (H' κ)):∀κ κ',Le (H κ) (H' (wk κ κ'))
 |true,true=>hH true
 |true,false=>Le.trans (hH true) hw
 |false,_=>hH false
structure Sn (ν:Nu)(H H':Bool->Hp)(bC:OF)(ren:List Nat):Prop where
 le:∀κ,Le (H κ) (H' κ)
 wk:Le (H' true) (H' false)
 ln:∀(i:Nat) (α:Type) (r:bQ α) (κ:Bool) (xs:List α) (b:Option Nat) (c n:Nat),bC i=some (.row r κ xs)->ν i=some (b,c,n)->n=xs.length/\(b=none->xs=[])
 fz:∀(i:Nat) (α:Type) (r:bQ α) (κ:Bool) (xs:List α) (a:Value),iI ren i=none->bC i=some (.row r κ xs)->(Lf.own i).R ν H a->Rs r (H' κ) a xs
theorem KW(hs:Sn ν H H' bC ren){x y l:Lf}{a:Value}(h:cvL bC ren x y=some l)(hr:x.R ν H a):l.R (dV ν ren) H' a:=by
 unfold cvL at h;split at h
 . split at h
   . cases h
   . rename_i hp;split at h
     . rename_i ho;cases h;exact Rs.mono (hs.fz _ _ _ _ _ _ hp ho hr) (mQ hs.wk (fun _=>Le.refl _) _ _)
     . cases h
 . split at h
   . rename_i j hj;split at h
     . rename_i ho;cases h;obtain⟨b,c,n,h1,h2⟩:=hr;obtain⟨e1,e2⟩:=hs.ln _ _ _ _ _ _ _ _ ho h1;exact⟨b,c,n,kd (lg hj) h1,.inl ⟨e1,e2,h2⟩⟩
     . cases h
   . cases h
 . split at h
   . rename_i j hj;cases h;obtain⟨b,c,n,h1,h2⟩:=hr;exact⟨b,c,n,kd (lg hj) h1,h2⟩
   . cases h
 . split at h
   . rename_i j hj;cases h;obtain⟨b,c,n,h1,h2⟩:=hr;exact⟨b,c,n,kd (lg hj) h1,h2.imp id fun g=>⟨g.1,Rs.mono g.2.1 (mQ hs.wk hs.le _ _),g.2.2⟩⟩
   . cases h
 . split at h
   . rename_i j hj;cases h;obtain⟨b,c,h1,h2⟩:=hr;exact⟨b,c,kd (lg hj) h1,h2⟩
   . cases h
 . split at h
   . rename_i j hj;cases h;obtain⟨b,c,h1,h2⟩:=hr;exact⟨b,c,kd (lg hj) h1,h2⟩
   . cases h
 . split at h
   . rename_i j hj;cases h;obtain⟨b,c,m,k,cp,h1,h2⟩:=hr;exact⟨b,c,m,k,cp,kd (lg hj) h1,h2⟩
   . cases h
 . cases h;exact Pd.mono _ _ _ _ hs.le hr
 . cases h;exact Rs.mono hr (mQ hs.wk hs.le _ _)
 . cases h;exact Rs.mono hr.1 (mQ hs.wk hs.le _ _)
 . cases h;exact⟨Rs.mono hr.1 (mQ hs.wk hs.le _ _),hr.2⟩
 . cases h;obtain⟨h1,_⟩:=hr;rw[h1];exact Rs.nil
 . cases h;exact hr
 . cases h
theorem BP(hs:Sn ν H H' bC ren):∀{x y l:List Lf} {a:List Value},vI bC ren x y=some l->cS ν H x a->cS (dV ν ren) H' l a
 |[],[],l,a,h,hr=>by cases h;exact hr
 |x::r,y::s,l,a,h,hr=>by
  simp only[vI]at h;split at h
  . rename_i u hu;split at h
    . rename_i z hz;cases h;obtain⟨a,az,h1,h2,h3⟩:=hr;exact⟨a,az,h1,KW hs hu h2,BP hs hz h3⟩
    . cases h
  . cases h
 |[],_::_,_,_,h,_=>by cases h
 |_::_,[],_,_,h,_=>by cases h
theorem J4(hs:Sn ν H H' bC ren){x y l:S1}{a:Value}(h:cvS bC ren x y=some l)(hr:x.R ν H a):l.R (dV ν ren) H' a:=by
 unfold cvS at h;split at h
 . split at h
   . rename_i u hu;cases h;exact KW hs hu hr
   . cases h
 . split at h
   . rename_i u hu;cases h;obtain⟨vs,h1,h2⟩:=hr;exact⟨vs,h1,BP hs hu h2⟩
   . cases h
 . cases h
theorem F3(hs:Sn ν H H' bC ren):∀{x y l:List S1} {a:List Value},wm bC ren x y=some l->dO ν H x a->dO (dV ν ren) H' l a
 |[],[],l,a,h,hr=>by cases h;exact hr
 |x::r,y::s,l,a,h,hr=>by
  simp only[wm]at h;split at h
  . rename_i u hu;split at h
    . rename_i z hz;cases h;obtain⟨a,az,h1,h2,h3⟩:=hr;exact⟨a,az,h1,J4 hs hu h2,F3 hs hz h3⟩
    . cases h
  . cases h
 |[],_::_,_,_,h,_=>by cases h
 |_::_,[],_,_,h,_=>by cases h
theorem Sm(hs:Sn ν H H' bC ren){x y l:Sv}{a:Value}(h:cvV bC ren x y=some l)(hr:x.R ν H a):l.R (dV ν ren) H' a:=by
 unfold cvV at h;split at h
 . split at h
   . rename_i u hu;cases h;exact J4 hs hu hr
   . cases h
 . split at h
   . rename_i u hu;cases h;obtain⟨vs,h1,h2⟩:=hr;exact⟨vs,h1,F3 hs hu h2⟩
   . cases h
 . split at h
   . rename_i u hu;cases h;obtain⟨b,o,vs,h1,h2,h3⟩:=hr;exact⟨b,o,vs,h1,h2.mono (mQ hs.wk hs.le _ _),BP hs hu h3⟩
   . cases h
 . cases h
theorem NG(hs:Sn ν H H' bC ren){q:Nat}{x y l:Ob}{c n:Nat}{k:cW}(h:tD bC ren q x y=some l)(hr:x.R ν H c n k):l.R (dV ν ren) H' c n k:=by
 unfold tD at h;split at h
 . cases h;obtain⟨e1,e0,cs,sp,e2,e3,e4⟩:=hr;exact⟨e1,e0,cs,sp,e2,e3.mono (mQ hs.wk hs.le _ _),e4⟩
 . cases h;obtain⟨e1,e0,cs,sp,e2,e3,e4⟩:=hr;exact⟨e0,.inl ⟨e1,cs,sp,e2,e3.mono (mQ hs.wk hs.le _ _),e4⟩⟩
 . cases h;obtain⟨e0,hr⟩:=hr;exact⟨e0,hr.imp (fun⟨e1,cs,sp,e2,e3,e4⟩=>⟨e1,cs,sp,e2,e3.mono (mQ hs.wk hs.le _ _),e4⟩) id⟩
 . split at h
   . rename_i u hu;cases h;obtain⟨vs,e1,e2⟩:=hr;exact⟨vs,e1,BP hs hu e2⟩
   . cases h
 . cases h;exact hr
 . split at h
   . rename_i i hi;split at h
     . rename_i hb;cases h;have e:=dI hb;subst e;obtain⟨h1,h2,t,c',n',cs,sp,FB,FC,h0,h3,h4,h5,h6,h7,h8,h9⟩:=hr;exact⟨h1,h2,t,c',n',cs,sp,FB,FC,kd hi h0,h3,h4,h5,h6,h7,h8,fun h hh=>by cases hh⟩
     . cases h
   . cases h
 . cases h
theorem vv{k:Nat}{x y l:Ob}(h:tD bC ren k x y=some l):(l.tid=none↔x.tid=none)/\∀j,l.tid=some j->j=k:=by
 unfold tD at h;split at h
 . cases h;exact⟨nq,fun j hj=>by cases hj⟩
 . cases h;exact⟨nq,fun j hj=>by cases hj⟩
 . cases h;exact⟨nq,fun j hj=>by cases hj⟩
 . split at h
   . cases h;exact⟨nq,fun j hj=>by cases hj⟩
   . cases h
 . cases h;exact⟨nq,fun j hj=>by cases hj⟩
 . split at h
   . split at h
     . cases h;exact⟨⟨fun h=>(by cases h),fun h=>(by cases h)⟩,fun j hj=>by cases hj;rfl⟩
     . cases h
   . cases h
 . cases h
theorem HX{x l:Ob}{k i:Nat}(hk:ren[k]?=some i)(ht:l.tid=none↔x.tid=none):gZ (dV ν ren) k l=gZ ν i x:=by
 unfold gZ;rw[vc hk];cases hl:l.tid with
 |none=>rw[ht.1 hl]
 |some a=>cases hx:x.tid with
  |none=>rw[ht.2 hx]at hl;cases hl
  |some b=>rfl
theorem zI{x l:Ob}{k i b:Nat}(hk:ren[k]?=some i)(ht:l.tid=none↔x.tid=none):fK (dV ν ren) k l b↔fK ν i x b:=by
 unfold fK;rw[vc hk,HX hk ht];exact nq
theorem Kd{L:SS}(hs:Sn ν H H' (aQ L.bC) ren){e:Env}(hS:di ν H (aQ L.bP) e):∀{l l':List (Nat×Option Sv)},nM L ren l=some l'->di (dV ν ren) H' (aQ l') e
 |[],_,h=>by cases h;intro t sv ht;cases ht
 |(t,some b)::r,_,h=>by
  simp only[nM]at h;split at h
  . rename_i a ha;split at h
    . rename_i x hx;split at h
      . rename_i y hy;cases h;intro t' sv ht;have ht:(bif Nat.beq t' t then some x else aQ y t')=some sv:=ht;cases hb:Nat.beq t' t with
        |true=>rw[hb]at ht;cases ht;have:=dI hb;subst this;exact Sm hs hx (hS _ _ ha)
        |false=>rw[hb]at ht;exact Kd hs hS hy t' sv ht
      . cases h
    . cases h
  . cases h
 |(_,none)::_,_,h=>by simp only[nM]at h;cases h
theorem pW:∀{l l':List (Nat×Option Ob)} {k:Nat} {ob:Ob},kY bC ren l=some l'->aQ l' k=some ob->∃i a b,ren[k]?=some i/\bC i=some a/\tD bC ren k a b=some ob
 |[],_,k,ob,h,hk=>by cases h;cases hk
 |(j,some b)::r,_,k,ob,h,hk=>by
  simp only[kY]at h;split at h
  . rename_i i hi;split at h
    . rename_i a ha;split at h
      . rename_i x hx;split at h
        . rename_i y hy;cases h;have hk:(bif Nat.beq k j then some x else aQ y k)=some ob:=hk;cases hb:Nat.beq k j with
          |true=>rw[hb]at hk;cases hk;have:=dI hb;subst this;exact⟨i,a,b,hi,ha,hx⟩
          |false=>rw[hb]at hk;exact pW hy hk
        . cases h
      . cases h
    . cases h
  . cases h
 |(j,none)::r,_,k,ob,h,hk=>by
  simp only[kY]at h;split at h
  . rename_i y hy;cases h;have hk:(bif Nat.beq k j then none else aQ y k)=some ob:=hk;cases hb:Nat.beq k j with
    |true=>rw[hb]at hk;cases hk
    |false=>rw[hb]at hk;exact pW hy hk
  . cases h
theorem zZ:∀{l:List Nat} {p q i:Nat},fL l=true->l[p]?=some i->l[q]?=some i->p=q
 |[],p,_,_,_,h,_=>by simp at h
 |x::r,p,q,i,hn,hp,hq=>by
  simp only[fL,fI,Gn]at hn;have hx:∀{q:Nat},r[q]?=some x->False:=fun h=>by
   have:=ja.2 (ni h);rw[this]at hn;cases hn.1
  cases p with
  |zero=>cases q with
   |zero=>rfl
   |succ q=>simp at hp hq;subst hp;exact(hx hq).elim
  |succ p=>cases q with
   |zero=>simp at hp hq;subst hq;exact(hx hp).elim
   |succ q=>simp at hp hq;rw[zZ hn.2 hp hq]
end
theorem cI.pA{X:Nat->Prop}{w0 w:World}{H0:Bool->Hp}{ν:Nu}{oF:OF}(hS:cI X w0 H0 ν oF w){ren:List Nat}{out out':List (Nat×Option Ob)}(h1:kY oF ren out=some out')(h2:fL ren=true):
 cI X w0 H0 (dV ν ren) (aQ out') w/\Sn ν (HF X w0 H0 ν oF w) (HF X w0 H0 (dV ν ren) (aQ out') w) oF ren:=by
 have ow:∀b,Ow (dV ν ren) (aQ out') b->∃i ob,oF i=some ob/\fK ν i ob b/\i∈ren:=by
  rintro b ⟨k,ob,g1,g2⟩;obtain⟨i,a,b',q1,q2,q3⟩:=pW h1 g1;exact⟨i,a,q2,(zI q1 (vv q3).1).1 g2,ni q1⟩
 have le:∀κ,Le (HF X w0 H0 ν oF w κ) (HF X w0 H0 (dV ν ren) (aQ out') w κ):=by
  intro κ b o h;rcases ra h with⟨g1,g1',g2⟩|⟨g1,g2,g3⟩
  . rw[nz g1 g1'];exact g2
  . refine k9 g1 (fun hw=>?_) g3;obtain⟨i,ob,q1,q2,_⟩:=ow b hw;exact g2 ⟨i,ob,q1,q2⟩
 have tf:Le (HF X w0 H0 (dV ν ren) (aQ out') w true) (HF X w0 H0 (dV ν ren) (aQ out') w false):=fun b o h=>by
  rcases ra h with⟨g1,g1',g2⟩|⟨g1,g2,g3⟩
  . rw[nz g1 g1'];exact hS.h0 b o g2
  . exact k9 g1 g2 g3
 have sn:Sn ν (HF X w0 H0 ν oF w) (HF X w0 H0 (dV ν ren) (aQ out') w) oF ren:=by
  refine⟨le,tf,?_,?_⟩
  . intro i α r κ xs b c n ho hb;obtain⟨b',c',n',k,q2,q3,e1,e0,cs,sp,rfl,e3,e4⟩:=hS.cT i _ ho;rw[hb]at q2;cases q2;refine⟨e1,fun hn=>?_⟩;subst hn;have hq:Rs r (HF X w0 H0 ν oF w κ) (fk none 0 0 0) xs:=qB q3 e3 e0;rcases hq with⟨_,h⟩|⟨_,_,_,hv,_⟩
    . exact h
    . cases hv
  rintro i α r κ xs a hp ho ⟨b,c,n,q1,rfl⟩;obtain⟨b',c',n',k,q2,q3,e1,e0,cs,sp,rfl,e3,e4⟩:=hS.cT i _ ho;rw[q1]at q2;cases q2;cases b with
  |none=>exact qB q3 e3 e0
  |some b=>
   have hb:X b\/w0.heap.size<=b:=hS.fresh i _ b ho (.inl (ep q1));have hn:¬Ow (dV ν ren) (aQ out') b:=by
    intro hw;obtain⟨j,ob,g1,g2,g3⟩:=ow b hw;have:=hS.gG i j _ ob b ho g1 (.inl (ep q1)) g2;subst this;exact FV hp g3
   exact wS (px q3 fun q hq=>k9 hb hn (vn q3 hq)) (e3.mono (le κ)) e0 rfl e1 e4
 refine⟨⟨hS.os,hS.tape,hS.output,hS.size,hS.keep,hS.h0,hS.mw,hS.oB,fun k ob h=>?_,fun k ob b h hb=>?_,fun k k' o o' b h h' hb hb'=>?_,fun k ob h=>?_⟩,sn⟩
 . obtain⟨i,a,b,q1,q2,q3⟩:=pW h1 h;obtain⟨b',c,n,kk,g1,g2,g3⟩:=hS.cT i a q2;exact⟨b',c,n,kk,kd q1 g1,g2,NG sn q3 g3⟩
 . obtain⟨i,a,b',q1,q2,q3⟩:=pW h1 h;exact hS.fresh i a b q2 ((zI q1 (vv q3).1).1 hb)
 . obtain⟨i,a,b1,q1,q2,q3⟩:=pW h1 h;obtain⟨i',a',b1',q1',q2',q3'⟩:=pW h1 h';have:=hS.gG i i' a a' b q2 q2' ((zI q1 (vv q3).1).1 hb) ((zI q1' (vv q3').1).1 hb');subst this;exact zZ h2 q1 q1'
 . obtain⟨i,a,b1,q1,q2,q3⟩:=pW h1 h;obtain⟨p1,p2,p3⟩:=hS.parts i a q2;have e:=HX (ν:=ν) q1 (vv q3).1;exact⟨fun t ht=>p1 t (by rw[<-e];exact ht),fun b t hb ht=>p2 b t (by rw[<-vc q1];exact hb) (by rw[<-e];exact ht),(vv q3).2⟩
def nJ:Nat->List Nat->Bool
 |0,_=>true
 |m+1,ren=>(match ren[m]?with
  |some i=>Nat.beq i m
  |none=>false)&&nJ m ren
theorem yM:∀{m:Nat} {ren:List Nat} {k:Nat},nJ m ren=true->k<m->ren[k]?=some k
 |0,_,k,_,h=>by omega
 |m+1,ren,k,h,hk=>by
  simp only[nJ,fI]at h;by_cases hm:k=m
  . subst hm;cases hr:ren[k]?with
    |none=>rw[hr]at h;cases h.1
    |some i=>rw[hr]at h;rw[dI h.1]
  . exact yM h.2 (by omega)
theorem St.pA{F:Fx}{L:SS}{e:Env}{w:World}(h:St F L e w)(ren:List Nat){cT:List (Nat×Option Ob)}{bP:List (Nat×Option Sv)}(h1:kY (aQ L.bC) ren cT=some cT)(h2:fL ren=true)(h3:nM L ren bP=some bP)(h4:nJ F.m ren=true):St F ⟨ren.length,cT,bP⟩ e w:=by
 obtain⟨ν,g1,g2,g3,g4,g5⟩:=h;obtain⟨k1,k2⟩:=g4.pA h1 h2;refine⟨dV ν ren,fun k hk=>?_,?_,fun k hk=>?_,k1,Kd k2 g5 h3⟩
 . rw[qe,fQ hk];rfl
 . rcases cw ren.length F.m with h|h
   . have:=yM h4 (k:=ren.length) h;rw[fQ (bK _)]at this;cases this
   . exact h
 . rw[qe,yM h4 hk];exact g3 k hk
open Go Go.RowKit Go.X
variable [eW]
def xH(X:Nat->Prop)(w0:World)(H0:Bool->Hp)(ν0:Nu)(m:Nat)(out:List (Nat×Option Ob))(rs:List S1)(vs:List Value)(w:World):Prop:= ∃ν,(∀k,k<m->ν k=ν0 k)/\cI X w0 H0 ν (aQ out) w/\dO ν (HF X w0 H0 ν (aQ out) w) rs vs
def Cx(P:Program)(f:FuncId)(az:List S1)(ib:List Ob)(out:List (Nat×Option Ob))(rs:List S1):Prop:= Enters P f/\∀(X:Nat->Prop) (w:World) (H:Bool->Hp) (ν:Nu) (l:List Value),(∀k,ib.length<=k->ν k=none)->cI X w H ν (aQ (eu 0 ib)) w->dO ν (HF X w H ν (aQ (eu 0 ib)) w) az l-> Calls P f l.toArray w (fun e w'=>∃vs,e=.returned (js vs)/\xH X w H ν ib.length out rs vs w')
abbrev Cn(P:Program)(f:FuncId)(az:List S1)(ob:List Ob)(rs:List S1):Prop:=Cx P f az [] (eu 0 ob) rs
def QR(P:Program)(rl:List ResultVar)(X:Nat->Prop)(w0:World)(H0:Bool->Hp)(ν0:Nu)(m:Nat)(out:List (Nat×Option Ob))(rs:List S1):Env->World->Prop:=fun e w=>∃vs,rM P e w rl vs/\xH X w0 H0 ν0 m out rs vs w
def o7:Nat->List S1->List (Nat×Option Sv)
 |_,[]=>[]
 |i,a::r=>(i,some (.s a))::o7 (i+1) r
theorem Bv{ν:Nu}{H:Bool->Hp}{e:Env}:∀{az:List S1} {vs:List Value} (j:Nat),dO ν H az vs->(∀i v,vs[i]?=some v->e (j+i)=v)->di ν H (aQ (o7 j az)) e
 |[],_,j,_,_=>fun t sv ht=>by cases ht
 |a::r,_,j,⟨v,vs,h1,h2,h3⟩,he=>fun t sv ht=>by
  subst h1;have ht:(bif Nat.beq t j then some (Sv.s a)else aQ (o7 (j+1) r) t)=some sv:=ht;cases hb:Nat.beq t j with
  |true=>
   rw[hb]at ht;cases ht;have:=dI hb;subst this;have:=he 0 v rfl;rw[pO]at this;rw[this];exact h2
  |false=>
   rw[hb]at ht;exact Bv (j+1) h3 (fun i v' hi=>by rw[show j+1+i=j+(i+1) by omega];exact he (i+1) v' (by simpa using hi)) t sv ht
theorem fn{P:Program}(tb:List (dF P)){f:FuncId}{fn:Func}{c:Code}{rl:List ResultVar}{n:Nat}{az rs:List S1}{ib:List Ob}{out:List (Nat×Option Ob)}(en:Enters P f)(hf:P.funcs[f]?=some fn)
 {m:Nat}(h:∀X w H ν,Gs tb ⟨n,QR P rl X w H ν m out rs,X,w,H,m,ν⟩ [.code c] ⟨m,eu 0 ib,o7 0 az⟩)(hm:ib.length=m:=by rfl)(hb:fn.body=some c:=by rfl)(hn:fn.ntmps=n:=by rfl)(hr:fn.results=rl.toArray:=by rfl)(hl:Nat.ble az.length n=true:=by rfl):Cx P f az ib out rs:=by
 subst hm;refine⟨en,fun X w H ν l hν hS hl'=>?_⟩;refine Li hf hb hn hr (by rw[hl'.length];exact kx hl) ?_;have h0:St ⟨n,QR P rl X w H ν ib.length out rs,X,w,H,ib.length,ν⟩ ⟨ib.length,eu 0 ib,o7 0 az⟩ (kJ l) w:=⟨ν,hν,bK _,fun _ _=>rfl,hS,Bv 0 hl' (fun i v hi=>by rw[eK];simp[kJ,hi])⟩;refine((Gs.ok (h X w H ν)).ok _ _ h0).mono ?_;rintro e w' ⟨vs,h1,h2⟩;exact⟨vs,h1,vs,rfl,h2⟩
def sD{P:Program}(tb:List (dF P))(L:SS):List ResultVar->Option (List S1)
 |[]=>some []
 |.tmp t::r=>match aQ L.bP t with
  |some (.s s)=>match sD tb L r with
   |some y=>some (s::y)
   |none=>none
  |_=>none
 |.cell a t::r=>match aQ L.bP a with
  |some (.s (.lf (.ptr j 0)))=>match aQ L.bC j with
   |some (.box l)=>match cE tb t with
    |some T=>match iG T.d with
     |true=>match Nat.beq l.length T.sz with
      |true=>match sD tb L r with
       |some y=>some (.agg l::y)
       |none=>none
      |false=>none
     |false=>match l[0]?with
      |some x=>match sD tb L r with
       |some y=>some (.lf x::y)
       |none=>none
      |none=>none
    |none=>none
   |_=>none
  |_=>none
section
variable {P:Program} {tb:List (dF P)} {F:Fx} {all r:List Oper} {k:List It} {L:SS} {n:Nat}
theorem zL{ν:Nu}{e:Env}{w:World}{H:Bool->Hp}(hO:∀i ob,aQ L.bC i=some ob->∃b c n k,ν i=some (b,c,n)/\dC w b k/\ob.R ν H c n k)(hS:di ν H (aQ L.bP) e):∀{rl:List ResultVar} {bU:List S1},sD tb L rl=some bU->∃vs,rM P e w rl vs/\dO ν H bU vs
 |[],_,h=>by cases h;exact⟨[],trivial,rfl⟩
 |.tmp t::r,_,h=>by
  simp only[sD]at h;split at h
  . rename_i s hs;split at h
    . rename_i y hy;cases h;obtain⟨vs,h1,h2⟩:=zL hO hS hy;exact⟨e t::vs,⟨rfl,h1⟩,_,_,rfl,hS _ _ hs,h2⟩
    . cases h
  . cases h
 |.cell a t::r,_,h=>by
  simp only[sD]at h;split at h
  . rename_i j hs;split at h
    . rename_i l ho;split at h
      . rename_i T hT;obtain⟨b,vs,g1,hc,g4⟩:=MD hO (hS _ _ hs) ho;split at h
        . rename_i hg;split at h
          . rename_i hb;split at h
            . rename_i y hy;cases h;obtain⟨us,h1,h2⟩:=zL hO hS hy;exact⟨.agg vs.toArray::us,⟨⟨_,g1,SZ (gx hT) hg (fV hT) hc (by rw[g4.length];exact dI hb)⟩,h1⟩,_,_,rfl,⟨vs,rfl,g4⟩,h2⟩
            . cases h
          . cases h
        . rename_i hg;split at h
          . rename_i x hx;split at h
            . rename_i y hy;cases h;obtain⟨us,h1,h2⟩:=zL hO hS hy;obtain⟨v,q1,q2⟩:=g4.get hx;exact⟨v::us,⟨⟨_,g1,NW (gx hT) hg hc q1⟩,h1⟩,_,_,rfl,q2,h2⟩
            . cases h
          . cases h
      . cases h
    . cases h
  . cases h
theorem rt{rl:List ResultVar}{bU rs:List S1}{out:List (Nat×Option Ob)}{X:Nat->Prop}{w0:World}{H0:Bool->Hp}{m:Nat}{ν0:Nu}(ren:List Nat)(h0:sD tb L rl=some bU:=by rfl)(h1:kY (aQ L.bC) ren out=some out:=by rfl)(h2:fL ren=true:=by rfl)(h3:wm (aQ L.bC) ren bU rs=some rs:=by rfl)(h4:nJ m ren=true:=by rfl):
 uj tb ⟨n,QR P rl X w0 H0 ν0 m out rs,X,w0,H0,m,ν0⟩ L:=by
 constructor;rintro e w ⟨ν,g1,g2,g3,g4,g5⟩;obtain⟨vs,q1,q2⟩:=zL g4.cT g5 h0;obtain⟨k1,k2⟩:=g4.pA h1 h2;refine⟨vs,q1,dV ν ren,fun k hk=>?_,k1,F3 k2 h3 q2⟩;rw[qe,yM h4 hk];exact g3 k hk
theorem bj{π σ:Type}{inj:π->σ}{Lj:π->SS}{s:σ}(x:π)(ren:List Nat){cT:List (Nat×Option Ob)}{bP:List (Nat×Option Sv)}(hx:inj x=s:=by rfl)(hI:Lj x=⟨ren.length,cT,bP⟩:=by rfl)(h1:kY (aQ L.bC) ren cT=some cT:=by rfl)(h2:fL ren=true:=by rfl)(h3:nM L ren bP=some bP:=by rfl)(h4:nJ F.m ren=true:=by rfl):
 tN tb F (fun e w=>∃p,inj p=s/\St F (Lj p) e w) L:=⟨fun _ _ h=>⟨x,hx,by rw[hI];exact h.pA ren h1 h2 h3 h4⟩⟩
theorem bl{σ ρ:Type}{I:σ->SS}{x:σ}(ren:List Nat){cT:List (Nat×Option Ob)}{bP:List (Nat×Option Sv)}(hI:I x=⟨ren.length,cT,bP⟩:=by rfl)(h1:kY (aQ L.bC) ren cT=some cT:=by rfl)(h2:fL ren=true:=by rfl)(h3:nM L ren bP=some bP:=by rfl)(h4:nJ F.m ren=true:=by rfl):
 tN tb F (fun e w=>∃s',(aK.next x:aK σ ρ)=.next s'/\St F (I s') e w) L:=⟨fun _ _ h=>⟨x,rfl,by rw[hI];exact h.pA ren h1 h2 h3 h4⟩⟩
theorem sn{kk:List It}(L':SS)(ren:List Nat)(h:ju tb F kk L'){cT:List (Nat×Option Ob)}{bP:List (Nat×Option Sv)}(hI:L'=⟨ren.length,cT,bP⟩:=by rfl)(h1:kY (aQ L.bC) ren cT=some cT:=by rfl)(h2:fL ren=true:=by rfl)(h3:nM L ren bP=some bP:=by rfl)(h4:nJ F.m ren=true:=by rfl):ju tb F kk L:=⟨fun e w hs=>h.ok e w (by rw[hI];exact hs.pA ren h1 h2 h3 h4)⟩
theorem jn{π σ β:Type}{m:Option σ}{g:σ->Option β}{res:β}{c:Code}(inj:π->σ)(Lj:π->SS)(h:m.bind g=some res)
 (h1:∀s,m=some s->g s=some res->Gs tb F (.code c::.back (fun e w=>∃p,inj p=s/\St F (Lj p) e w)::k) L)(h2:∀p,g (inj p)=some res->Gs tb F k (Lj p)):ju tb F (.code c::k) L:=by
 obtain⟨s,q1,q2⟩:=bind_some h;refine⟨fun e w hs=>cx.join _ ((Gs.ok (h1 s q1 q2)).ok e w hs) ?_⟩;rintro e w ⟨p,rfl,hp⟩;exact(Gs.ok (h2 p q2)).ok e w hp
theorem bk{c:Code}{id:Nat}(h:Gs tb F (.code c::.dt id::k) L):ju tb F (.code (.block id c)::k) L:=⟨fun e w hs=>cx.block ((Gs.ok h).ok e w hs)⟩
theorem lp{σ ρ:Type}{body:σ->Option (aK σ ρ)}{N:Nat}{s0:σ}{r0:ρ}{c:Code}(I:σ->SS)(hl:bI body N s0=some r0)(ren:List Nat)
 (rd:∀s o,body s=some o->(∀r',o=.done r'->r'=r0)->Gs tb F (.code c::.back (fun e w=>∃s',o=.next s'/\St F (I s') e w)::k) (I s))
 {cT:List (Nat×Option Ob)}{bP:List (Nat×Option Sv)}(hI:I s0=⟨ren.length,cT,bP⟩:=by rfl)(h1:kY (aQ L.bC) ren cT=some cT:=by rfl)(h2:fL ren=true:=by rfl)(h3:nM L ren bP=some bP:=by rfl)(h4:nJ F.m ren=true:=by rfl):ju tb F (.code (.loop c)::k) L:=⟨fun e w hs=>
 cx.bI hl (fun s e w=>St F (I s) e w) (by show St _ (I s0) _ _;rw[hI];exact hs.pA ren h1 h2 h3 h4) fun s o e w hs hb hd=>(Gs.ok (rd s o hb hd)).ok e w hs⟩
theorem dbt{b:Bool}:b=decide (b=true):=by cases b<;>rfl
theorem dnt{p:Prop}[Decidable p]:(!decide p)=decide (¬p):=by by_cases h:p<;>simp[h]
def SS.kn(L:SS)(c:Operand)(b:Bool):SS:=match c with
 |.tmp t=>L.set t (eE (.bool b))
 |_=>L
theorem St.kn{c:Operand}{b b':Bool}{e:Env}{w:World}(h:St F L e w)(hc:lv (bN L c)=some (.bool b))(hb:b=b'):St F (L.kn c b') e w:=by
 cases c with
 |tmp t=>
  have:aQ L.bP t=some (.s (.lf (.v (.bool b)))):=by
   simp only[bN]at hc;unfold lv at hc;split at hc
   . rename_i hx;cases hc;exact hx
   . cases hc
  exact h.known this (by rw[hb])
 |_=>exact h
theorem St.lv{c:Operand}{v:Value}{e:Env}{w:World}(h:St F L e w)(hc:lv (bN L c)=some v):ev e c=v:=by
 obtain⟨ν,_,_,_,_,h4⟩:=h;exact(eJ h4 hc).1
theorem cd{β:Type}{p:Prop}[Decidable p]{A B:Option β}{res:β}{c:Operand}{x y:Code}{b:Bool}(h:(if p then A else B)=some res)(ht:p->A=some res->Gs tb F (.code x::k) (L.kn c true))(hf:¬p->B=some res->Gs tb F (.code y::k) (L.kn c false))
 (hc:lv (bN L c)=some (.bool b):=by rfl)(hb:b=decide p:=by first|rfl|exact dbt|exact dnt|simp):ju tb F (.code (.cond c x y)::k) L:=by
 subst hb;refine⟨fun e w hs=>?_⟩;refine cx.Tl p (hs.lv hc) (fun hp=>?_) (fun hp=>?_)
 . exact(Gs.ok (ht hp (JU hp h))).ok e w (hs.kn hc (by simp[hp]))
 . exact(Gs.ok (hf hp (IG hp h))).ok e w (hs.kn hc (by simp[hp]))
theorem cf{c:Operand}{x y:Code}{b:Bool}(hb:b=false)(ht:Gs tb F (.code y::k) (L.kn c false))(hc:lv (bN L c)=some (.bool b):=by rfl):ju tb F (.code (.cond c x y)::k) L:=
 ⟨fun e w hs=>cx.Ij (hs.lv hc) hb ((Gs.ok ht).ok e w (hs.kn hc hb))⟩
theorem rg{i:Nat}{ops:List Oper}(h:Gr tb F ops ops k L)(hd:lX F.n ops=true:=by rfl):ju tb F (.code (.region i ops.toArray false)::k) L:=⟨fun e w hs=>cx.region hd ((Gr.ok h).ok e w hs)⟩
theorem dk{n0:Nat}{acc:List Er}(h:Gs tb F k L)(hc:Ew n0 L.nx all acc.reverse=true:=by kernel_rfl):DkN tb F n0 all k acc L:=⟨RT▸hc,h⟩
theorem gd{β:Type}{p:Prop}[Decidable p]{A B:Option β}{res:β}{b:Bool}{K:Bool->Prop}(h:(if p then A else B)=some res)(ht:p->A=some res->K true)(hf:¬p->B=some res->K false)(hb:b=decide p:=by first|rfl|exact dbt|exact dnt|simp):BC b K:=by
 subst hb;by_cases hp:p
 . rw[show decide p=true by simp[hp]];exact ht hp (JU hp h)
 . rw[show decide p=false by simp[hp]];exact hf hp (IG hp h)
end
open Go Go.RowKit Go.X
variable [eW]
def nP(L:SS):List Operand->Option (List S1)
 |[]=>some []
 |x::r=>match bN L x with
  |some (.s s)=>match nP L r with
   |some y=>some (s::y)
   |none=>none
  |_=>none
theorem Ao{ν:Nu}{H:Bool->Hp}{L:SS}{e:Env}(hs:di ν H (aQ L.bP) e):∀{xs:List Operand} {ss:List S1},nP L xs=some ss->dO ν H ss (xs.map (ev e))
 |[],_,h=>by cases h;rfl
 |x::r,_,h=>by
  simp only[nP]at h;split at h
  . rename_i s hx;split at h
    . rename_i y hy;cases h;exact⟨_,_,rfl,db hs hx,Ao hs hy⟩
    . cases h
  . cases h
def ql:Option Bool->Bool->Bool->Bool
 |some true,false,_=>false
 |_,false,true=>false
 |_,_,_=>true
def nW(md:Option Bool)(bC:OF)(is:List Nat):Lf->Lf->Option Lf
 |.v (.slice none 0 0),.ro r κ _=>some (.ro r κ [])
 |.v x,_=>some (.v x)
 |.ro r κ xs,.ro _ κ' _=>match ql md κ κ' with
  |true=>some (.ro r κ' xs)
  |false=>none
 |.cp r κ xs,.ro _ κ' _=>match ql md κ κ' with
  |true=>some (.ro r κ' xs)
  |false=>none
 |.own i,.ro _ false _=>match md with
  |none=>match iI is i with
   |none=>match bC i with
    |some (.row r _ xs)=>some (.ro r false xs)
    |_=>none
   |some _=>none
  |some _=>none
 |.own i,.own _=>match iI is i with
  |some j=>some (.own j)
  |none=>none
 |.own i,.ap _ r κ' xs=>match iI is i with
  |some j=>match bC i with
   |some (.row r κ xs)=>match ql md κ κ' with
    |true=>some (.ap j r κ' xs)
    |false=>none
   |_=>none
  |none=>none
 |.ap i r κ xs,.ap _ _ κ' _=>match iI is i with
  |some j=>match ql md κ κ' with
   |true=>some (.ap j r κ' xs)
   |false=>none
  |none=>none
 |.ptr i o,_=>match iI is i with
  |some j=>some (.ptr j o)
  |none=>none
 |.mp i,_=>match iI is i with
  |some j=>some (.mp j)
  |none=>none
 |.sg i sz lo hi,_=>match iI is i with
  |some j=>some (.sg j sz lo hi)
  |none=>none
 |.pd q,_=>match md with
  |some true=>none
  |_=>some (.pd q)
 |_,_=>none
def mA(md:Option Bool)(bC:OF)(is:List Nat):List Lf->List Lf->Option (List Lf)
 |[],[]=>some []
 |a::r,b::s=>match nW md bC is a b with
  |some x=>match mA md bC is r s with
   |some y=>some (x::y)
   |none=>none
  |none=>none
 |_,_=>none
def kg(md:Option Bool)(bC:OF)(is:List Nat):List S1->List S1->Option (List S1)
 |[],[]=>some []
 |.lf a::r,.lf b::s=>match nW md bC is a b with
  |some x=>match kg md bC is r s with
   |some y=>some (.lf x::y)
   |none=>none
  |none=>none
 |.agg a::r,.agg b::s=>match mA md bC is a b with
  |some x=>match kg md bC is r s with
   |some y=>some (.agg x::y)
   |none=>none
  |none=>none
 |_,_=>none
def rF(md:Option Bool)(bC:OF)(is:List Nat):Ob->Ob->Option Ob
 |.row r κ xs,.row _ κ' _=>match ql md κ κ' with
  |true=>some (.row r κ' xs)
  |false=>none
 |.row r κ xs,.aG _ κ' _=>match ql md κ κ' with
  |true=>some (.aG r κ' xs)
  |false=>none
 |.aG r κ xs,.aG _ κ' _=>match ql md κ κ' with
  |true=>some (.aG r κ' xs)
  |false=>none
 |.box a,.box b=>match mA md bC is a b with
  |some x=>some (.box x)
  |none=>none
 |.map dk kf vf m,.map _ _ _ _=>some (.map dk kf vf m)
 |_,_=>none
def iZ(md:Option Bool)(bC:OF)(is:List Nat):List Nat->List Ob->Option (List Ob)
 |[],[]=>some []
 |i::r,b::s=>match bC i with
  |some a=>match rF md bC is a b with
   |some x=>match iZ md bC is r s with
    |some y=>some (x::y)
    |none=>none
   |none=>none
  |none=>none
 |_,_=>none
def Xc(ν:Nu)(is:List Nat)(b:Nat):Prop:=∃i∈is,dt ν i=some b
open Classical in
noncomputable def Hc(md:Option Bool)(H:Bool->Hp)(X:Nat->Prop)(w:World):Bool->Hp
 |true=>H true
 |false=>match md with
  |some κ=>H κ
  |none=>fun b=>if X b then none else w.heap[b]?
theorem FU{H:Bool->Hp}{X:Nat->Prop}{w:World}{b:Nat}{o:Obj}:Hc none H X w false b=some o↔¬X b/\w.heap[b]?=some o:=by
 unfold Hc;dsimp only;split
 . rename_i h;exact⟨fun h'=>by(cases h'),fun h'=>absurd h h'.1⟩
 . rename_i h;exact⟨fun h'=>⟨h,h'⟩,fun h'=>h'.2⟩
section
variable {md:Option Bool} {X:Nat->Prop} {w0 w:World} {H0:Bool->Hp} {ν:Nu} {oF:OF} {is:List Nat}
theorem AL(hI:∀i∈is,∃ob,oF i=some ob){b:Nat}(h:Xc ν is b):Ow ν oF b:=by
 obtain⟨i,h1,h2⟩:=h;obtain⟨ob,h3⟩:=hI i h1;exact⟨i,ob,h3,.inl h2⟩
theorem F2(hS:cI X w0 H0 ν oF w)(hI:∀i∈is,∃ob,oF i=some ob){κ:Bool}:Le (HF X w0 H0 ν oF w κ) (Hc none (HF X w0 H0 ν oF w) (Xc ν is) w false):=fun b o h=>by
 obtain⟨h1,h2⟩:=hS.rd h;exact FU.2 ⟨fun hx=>h2 (AL hI hx),h1⟩
theorem oz(hS:cI X w0 H0 ν oF w)(hI:∀i∈is,∃ob,oF i=some ob){κ κ':Bool}(h:ql md κ κ'=true):Le (HF X w0 H0 ν oF w κ) (Hc md (HF X w0 H0 ν oF w) (Xc ν is) w κ'):=by
 cases κ' with
 |true=>cases κ with
  |true=>exact Le.refl _
  |false=>cases md with
   |none=>cases h
   |some κ=>cases κ<;>cases h
 |false=>cases md with
  |none=>exact F2 hS hI
  |some κ2=>cases κ2 with
   |true=>cases κ with
    |true=>exact Le.refl _
    |false=>cases h
   |false=>exact hS.lef κ
theorem JZ(hS:cI X w0 H0 ν oF w)(hI:∀i∈is,∃ob,oF i=some ob):Le (Hc md (HF X w0 H0 ν oF w) (Xc ν is) w true) (Hc md (HF X w0 H0 ν oF w) (Xc ν is) w false):=by
 cases md with
 |none=>exact F2 hS hI
 |some κ=>cases κ with
  |true=>exact Le.refl _
  |false=>exact hS.tf
theorem Hc_w(hS:cI X w0 H0 ν oF w)(hI:∀i∈is,∃ob,oF i=some ob){b:Nat}{o:Obj}(h:Hc md (HF X w0 H0 ν oF w) (Xc ν is) w false b=some o):b<w.heap.size/\w.heap[b]?=some o/\¬Xc ν is b:=by
 cases md with
 |none=>
  obtain⟨h1,h2⟩:=FU.1 h;exact⟨kq h2,h2,h1⟩
 |some κ=>
  obtain⟨h1,h2⟩:=hS.rd (show HF X w0 H0 ν oF w κ b=some o from h);exact⟨kq h1,h1,fun hx=>h2 (AL hI hx)⟩
variable {νc:Nu} {cF:OF}
theorem qx(hS:cI X w0 H0 ν oF w)(hI:∀i∈is,∃ob,oF i=some ob)(κ:Bool):Le (Hc md (HF X w0 H0 ν oF w) (Xc ν is) w κ) (HF (Xc ν is) w (Hc md (HF X w0 H0 ν oF w) (Xc ν is) w) νc cF w κ):=fun b o h=>by
 have hf:Hc md (HF X w0 H0 ν oF w) (Xc ν is) w false b=some o:=by
  cases κ with
  |true=>exact JZ hS hI b o h
  |false=>exact h
 obtain⟨h1,h2,h3⟩:=Hc_w hS hI hf;rw[nz h1 h3];exact h
theorem Jm(hS:cI X w0 H0 ν oF w)(hI:∀i∈is,∃ob,oF i=some ob)(he:∀κ,Le (Hc md (HF X w0 H0 ν oF w) (Xc ν is) w κ) ((fun κ=>HF (Xc ν is) w (Hc md (HF X w0 H0 ν oF w) (Xc ν is) w) νc cF w κ) κ)){a b l:Lf}{v:Value}(h:nW md oF is a b=some l)(hr:a.R ν (HF X w0 H0 ν oF w) v):
 l.R (dV ν is) (HF (Xc ν is) w (Hc md (HF X w0 H0 ν oF w) (Xc ν is) w) νc cF w) v:=by
 unfold nW at h;split at h
 . cases h;obtain⟨h1,_⟩:=hr;rw[h1];exact Rs.nil
 . cases h;exact hr
 . split at h
   . rename_i hk;cases h;exact Rs.mono hr (Le.trans (oz hS hI hk) (he _))
   . cases h
 . split at h
   . rename_i hk;cases h;exact Rs.mono hr.1 (Le.trans (oz hS hI hk) (he _))
   . cases h
 . split at h
   . split at h
     . rename_i hp;split at h
       . rename_i α r κ xs ho;cases h;obtain⟨b,c,n,q1,rfl⟩:=hr;obtain⟨b',c',n',kk,q2,q3,e1,e0,cs,sp,rfl,e3,e4⟩:=hS.cT _ _ ho;rw[q1]at q2;cases q2;cases b with
         |none=>exact qB q3 e3 e0
         |some b=>
          have hx:¬Xc ν is b:=by
           rintro⟨j,g1,g2⟩;obtain⟨oj,g3⟩:=hI j g1;have:=hS.gG _ j _ oj b ho g3 (.inl (ep q1)) (.inl g2);subst this;exact FV hp g1
          exact wS (px q3 fun q hq=>he false b q (FU.2 ⟨hx,hq⟩)) (e3.mono (Le.trans (F2 hS hI) (he false))) e0 rfl e1 e4
       . cases h
     . cases h
   . cases h
 . split at h
   . rename_i j hj;cases h;obtain⟨b,c,n,h1,h2⟩:=hr;exact⟨b,c,n,kd (lg hj) h1,h2⟩
   . cases h
 . split at h
   . rename_i j hj;split at h
     . rename_i α r κ xs ho;split at h
       . cases h;obtain⟨b,c,n,q1,rfl⟩:=hr;obtain⟨b',c',n',kk,q2,q3,e1,e0,cs,sp,rfl,e3,e4⟩:=hS.cT _ _ ho;rw[q1]at q2;cases q2;refine⟨b,c,n,kd (lg hj) q1,.inl ⟨e1,fun hb=>?_,rfl⟩⟩;subst hb;have hq:Rs r (HF X w0 H0 ν oF w κ) (fk none 0 0 0) xs:=qB q3 e3 e0;rcases hq with⟨_,h⟩|⟨_,_,_,hv,_⟩
         . exact h
         . cases hv
       . cases h
     . cases h
   . cases h
 . split at h
   . rename_i j hj;split at h
     . rename_i hk;cases h;obtain⟨b,c,n,h1,h2⟩:=hr;exact⟨b,c,n,kd (lg hj) h1,h2.imp id fun g=>⟨g.1,Rs.mono g.2.1 (Le.trans (oz hS hI hk) (he _)),g.2.2⟩⟩
     . cases h
   . cases h
 . split at h
   . rename_i j hj;cases h;obtain⟨b,c,h1,h2⟩:=hr;exact⟨b,c,kd (lg hj) h1,h2⟩
   . cases h
 . split at h
   . rename_i j hj;cases h;obtain⟨b,c,h1,h2⟩:=hr;exact⟨b,c,kd (lg hj) h1,h2⟩
   . cases h
 . split at h
   . rename_i j hj;cases h;obtain⟨b,c,m,k,cp,h1,h2⟩:=hr;exact⟨b,c,m,k,cp,kd (lg hj) h1,h2⟩
   . cases h
 . split at h
   . cases h
   . rename_i hmd;cases h;refine Pd.mono _ _ _ _ (fun κ=>?_) hr;refine Le.trans (oz (md:=md) hS hI (κ:=κ) (κ':=κ) ?_) (he κ);cases md with
     |none=>cases κ<;>rfl
     |some κ2=>cases κ2 with
      |true=>exact absurd rfl hmd
      |false=>cases κ<;>rfl
 . cases h
theorem CN(hS:cI X w0 H0 ν oF w)(hI:∀i∈is,∃ob,oF i=some ob)(he:∀κ,Le (Hc md (HF X w0 H0 ν oF w) (Xc ν is) w κ) ((fun κ=>HF (Xc ν is) w (Hc md (HF X w0 H0 ν oF w) (Xc ν is) w) νc cF w κ) κ)):∀{a b l:List Lf} {v:List Value},mA md oF is a b=some l->cS ν (HF X w0 H0 ν oF w) a v->
 cS (dV ν is) (HF (Xc ν is) w (Hc md (HF X w0 H0 ν oF w) (Xc ν is) w) νc cF w) l v
 |[],[],l,a,h,hr=>by cases h;exact hr
 |x::r,y::s,l,a,h,hr=>by
  simp only[mA]at h;split at h
  . rename_i u hu;split at h
    . rename_i z hz;cases h;obtain⟨a,az,h1,h2,h3⟩:=hr;exact⟨a,az,h1,Jm hS hI he hu h2,CN hS hI he hz h3⟩
    . cases h
  . cases h
 |[],_::_,_,_,h,_=>by cases h
 |_::_,[],_,_,h,_=>by cases h
theorem wb(hS:cI X w0 H0 ν oF w)(hI:∀i∈is,∃ob,oF i=some ob)(he:∀κ,Le (Hc md (HF X w0 H0 ν oF w) (Xc ν is) w κ) ((fun κ=>HF (Xc ν is) w (Hc md (HF X w0 H0 ν oF w) (Xc ν is) w) νc cF w κ) κ)):∀{a b l:List S1} {v:List Value},kg md oF is a b=some l->dO ν (HF X w0 H0 ν oF w) a v->
 dO (dV ν is) (HF (Xc ν is) w (Hc md (HF X w0 H0 ν oF w) (Xc ν is) w) νc cF w) l v
 |[],[],l,a,h,hr=>by cases h;exact hr
 |.lf x::r,.lf y::s,l,a,h,hr=>by
  simp only[kg]at h;split at h
  . rename_i u hu;split at h
    . rename_i z hz;cases h;obtain⟨a,az,h1,h2,h3⟩:=hr;exact⟨a,az,h1,Jm (a:=x) hS hI he hu h2,wb hS hI he hz h3⟩
    . cases h
  . cases h
 |.agg x::r,.agg y::s,l,a,h,hr=>by
  simp only[kg]at h;split at h
  . rename_i u hu;split at h
    . rename_i z hz;cases h;obtain⟨a,az,h1,⟨vs,h2,h4⟩,h3⟩:=hr;exact⟨a,az,h1,⟨vs,h2,CN hS hI he hu h4⟩,wb hS hI he hz h3⟩
    . cases h
  . cases h
 |.lf _::_,.agg _::_,_,_,h,_=>by cases h
 |.agg _::_,.lf _::_,_,_,h,_=>by cases h
 |[],_::_,_,_,h,_=>by cases h
 |.lf _::_,[],_,_,h,_=>by cases h
 |.agg _::_,[],_,_,h,_=>by cases h
theorem vh:∀{l:List Nat} {ib ib':List Ob} {j k:Nat} {ob:Ob},iZ md oF is l ib=some ib'->aQ (eu j ib') k=some ob->∃p i a b,k=j+p/\l[p]?=some i/\oF i=some a/\rF md oF is a b=some ob
 |[],[],_,j,k,ob,h,hk=>by cases h;cases hk
 |i::r,b::s,_,j,k,ob,h,hk=>by
  simp only[iZ]at h;split at h
  . rename_i a ha;split at h
    . rename_i x hx;split at h
      . rename_i y hy;cases h;have hk:(bif Nat.beq k j then some x else aQ (eu (j+1) y) k)=some ob:=hk;cases hb:Nat.beq k j with
        |true=>rw[hb]at hk;cases hk;exact⟨0,i,a,b,by have:=dI hb;omega,rfl,ha,hx⟩
        |false=>
         rw[hb]at hk;obtain⟨p,i',a',b',g1,g2,g3,g4⟩:=vh hy hk;exact⟨p+1,i',a',b',by omega,by simpa using g2,g3,g4⟩
      . cases h
    . cases h
  . cases h
 |[],_::_,_,_,_,_,h,_=>by cases h
 |_::_,[],_,_,_,_,h,_=>by cases h
theorem Ms:∀{l:List Nat} {ib ib':List Ob},iZ md oF is l ib=some ib'->ib'.length=l.length
 |[],[],_,h=>by cases h;rfl
 |i::r,b::s,_,h=>by
  simp only[iZ]at h;split at h
  . split at h
    . split at h
      . rename_i y hy;cases h;simp[Ms hy]
      . cases h
    . cases h
  . cases h
 |[],_::_,_,h=>by cases h
 |_::_,[],_,h=>by cases h
theorem sE:∀{l:List Nat} {ib ib':List Ob},iZ md oF is l ib=some ib'->∀i∈l,∃ob,oF i=some ob
 |[],[],_,_,i,hi=>by cases hi
 |j::r,b::s,_,h,i,hi=>by
  simp only[iZ]at h;split at h
  . rename_i a ha;split at h
    . split at h
      . rename_i y hy;rcases eb.1 hi with e|e
        . subst e;exact⟨a,ha⟩
        . exact sE hy i e
      . cases h
    . cases h
  . cases h
 |[],_::_,_,h,_,_=>by cases h
 |_::_,[],_,h,_,_=>by cases h
theorem zT{md:Option Bool}{oF:OF}{is:List Nat}{a b x:Ob}(h:rF md oF is a b=some x):x.tid=none:=by
 unfold rF at h;split at h
 . split at h
   . cases h;rfl
   . cases h
 . split at h
   . cases h;rfl
   . cases h
 . split at h
   . cases h;rfl
   . cases h
 . split at h
   . cases h;rfl
   . cases h
 . cases h;rfl
 . cases h
theorem cI.AX(hS:cI X w0 H0 ν oF w)(hn:fL is=true){ib:List Ob}(h:iZ md oF is is ib=some ib):cI (Xc ν is) w (Hc md (HF X w0 H0 ν oF w) (Xc ν is) w) (dV ν is) (aQ (eu 0 ib)) w:=by
 have hI:=sE h;refine⟨rfl,rfl,rfl,bK _,fun _ _ _=>rfl,JZ hS hI,fun b o hb=>Hc_w hS hI hb,hS.tab,fun k ob hk=>?_,fun k ob b hk hb=>?_,fun k k' o o' b hk hk' hb hb'=>?_,fun k ob hk=>?_⟩
 . obtain⟨p,i,a,b,e1,e2,e3,e4⟩:=vh h hk;rw[eK]at e1;subst e1;obtain⟨b',c,n,kk,q1,q2,q3⟩:=hS.cT i a e3;refine⟨b',c,n,kk,kd e2 q1,q2,?_⟩;unfold rF at e4;split at e4
   . split at e4
     . rename_i hok;cases e4;obtain⟨r1,r0,cs,sp,r2,r3,r4⟩:=q3;exact⟨r1,r0,cs,sp,r2,r3.mono (Le.trans (oz hS hI hok) (qx hS hI _)),r4⟩
     . cases e4
   . split at e4
     . rename_i hok;cases e4;obtain⟨r1,r0,cs,sp,r2,r3,r4⟩:=q3;exact⟨r0,.inl ⟨r1,cs,sp,r2,r3.mono (Le.trans (oz hS hI hok) (qx hS hI _)),r4⟩⟩
     . cases e4
   . split at e4
     . rename_i hok;cases e4;exact⟨q3.1,q3.2.imp (fun⟨r1,cs,sp,r2,r3,r4⟩=>⟨r1,cs,sp,r2,r3.mono (Le.trans (oz hS hI hok) (qx hS hI _)),r4⟩) id⟩
     . cases e4
   . split at e4
     . rename_i x hx;cases e4;obtain⟨vs,r1,r2⟩:=q3;exact⟨vs,r1,CN hS hI (qx hS hI) hx r2⟩
     . cases e4
   . cases e4;exact q3
   . cases e4
 . obtain⟨p,i,a,b',e1,e2,e3,e4⟩:=vh h hk;rw[eK]at e1;subst e1;exact .inl ⟨i,ni e2,by rw[<-vc e2];exact(pZ (zT e4)).1 hb⟩
 . obtain⟨p,i,a,b1,e1,e2,e3,e4⟩:=vh h hk;obtain⟨p',i',a',b1',e1',e2',e3',e4'⟩:=vh h hk';rw[eK]at e1 e1';subst e1;subst e1';have:=hS.gG i i' a a' b e3 e3' (.inl (by rw[<-vc e2];exact(pZ (zT e4)).1 hb)) (.inl (by rw[<-vc e2'];exact(pZ (zT e4')).1 hb'));subst this;exact zZ hn e2 e2'
 . obtain⟨p,i,a,b',e1,e2,e3,e4⟩:=vh h hk;have e:=zT e4;exact⟨fun t ht=>absurd ht (by rw[uN e];simp),fun b t _ ht=>absurd ht (by rw[uN e];simp),fun j hj=>absurd hj (by rw[e];simp)⟩
end
def rn(is:List Nat)(nx k:Nat):Nat:=match is[k]?with
 |some i=>i
 |none=>nx+(k-is.length)
def mv:Option Bool->Bool->Bool
 |_,true=>true
 |none,false=>false
 |some κ,false=>κ
def mK:Option Bool->Bool->Bool
 |none,κ=>κ
 |some _,_=>true
def ri(md:Option Bool)(is:List Nat)(nx:Nat):Lf->Lf
 |.v x=>.v x
 |.ro r κ xs=>.ro r (mv md κ) xs
 |.cp r κ xs=>.cp r (mv md κ) xs
 |.own i=>.own (rn is nx i)
 |.ptr i o=>.ptr (rn is nx i) o
 |.mp i=>.mp (rn is nx i)
 |.pd q=>.pd q
 |.sg i sz lo hi=>.sg (rn is nx i) sz lo hi
 |.ap i r κ xs=>.ap (rn is nx i) r (mv md κ) xs
def kM(md:Option Bool)(is:List Nat)(nx:Nat):S1->S1
 |.lf l=>.lf (ri md is nx l)
 |.agg l=>.agg (l.map (ri md is nx))
def ru(md:Option Bool)(is:List Nat)(nx:Nat):Ob->Ob
 |.row r κ xs=>.row r (mv md κ) xs
 |.box l=>.box (l.map (ri md is nx))
 |.map dk kf vf m=>.map dk kf vf m
 |.deep t D xs hs=>.deep t D xs hs
 |.hd h i i' r κ xs=>.hd h i i' r κ xs
 |.aG r κ xs=>.aG r (mv md κ) xs
def okI(n:Nat):Lf->Bool
 |.own i=>Nat.blt i n
 |.ptr i _=>Nat.blt i n
 |.mp i=>Nat.blt i n
 |_=>true
def okL(md:Option Bool)(n:Nat):Lf->Bool
 |.ro _ κ _=>mK md κ
 |.cp _ κ _=>mK md κ
 |.pd _=>false
 |.sg .. =>false
 |.ap i _ κ _=>Nat.blt i n&&mK md κ
 |l=>okI n l
def o5(md:Option Bool)(n:Nat):S1->Bool
 |.lf l=>okL md n l
 |.agg l=>l.all (okL md n)
def okO(md:Option Bool)(n:Nat):Ob->Bool
 |.row _ κ _=>mK md κ
 |.box l=>l.all (okL md n)
 |.map _ _ _ _=>true
 |.deep _ _ _ _=>false
 |.hd .. =>false
 |.aG _ κ _=>mK md κ
def nY(md:Option Bool)(n:Nat):List (Nat×Option Ob)->Bool
 |[]=>true
 |(k,some o)::r=>Nat.blt k n&&okO md n o&&nY md n r
 |(_,none)::_=>false
def eZ(md:Option Bool)(is:List Nat)(nx:Nat):List (Nat×Option Ob)->List (Nat×Option Ob)
 |[]=>[]
 |(k,o)::r=>(rn is nx k,o.map (ru md is nx))::eZ md is nx r
def gW:List Nat->List (Nat×Option Ob)
 |[]=>[]
 |i::r=>(i,none)::gW r
def oE:List S1->Sv
 |[s]=>.s s
 |l=>.fC l
def iH(ν ν':Nu)(m nx nn:Nat):Nu:=⟨fun k=>bif Nat.ble nx k&&Nat.blt k (nx+nn)then ν' (m+(k-nx))else ν k,ν.tl,ν.tc⟩
theorem I4{ν ν':Nu}{m nx nn k:Nat}:iH ν ν' m nx nn k=bif Nat.ble nx k&&Nat.blt k (nx+nn)then ν' (m+(k-nx))else ν k:=rfl
theorem LH{md:Option Bool}{n:Nat}{o:Ob}(h:okO md n o=true):o.tid=none:=by cases o<;>first|rfl|cases h
theorem L5{md:Option Bool}{is:List Nat}{nx:Nat}{o:Ob}:(ru md is nx o).tid=o.tid:=by cases o<;>rfl
theorem Ab{ν ν':Nu}{m nx nn:Nat}:iz nx nn ν (iH ν ν' m nx nn):=fun k hk=>by
 rw[I4];have:(Nat.ble nx k&&Nat.blt k (nx+nn))=false:=by
  cases h1:Nat.ble nx k with
  |false=>rfl
  |true=>
   have h1:=kx h1;cases h2:Nat.blt k (nx+nn)with
   |false=>rfl
   |true=>have h2:k+1<=nx+nn:=kx h2;omega
 rw[this];rfl
theorem Ro{ν ν':Nu}{m nx nn j:Nat}(h:j<nn):iH ν ν' m nx nn (nx+j)=ν' (m+j):=by
 rw[I4];have h1:Nat.ble nx (nx+j)=true:=MN (by omega);have h2:Nat.blt (nx+j) (nx+nn)=true:=by show Nat.ble (nx+j+1) (nx+nn)=true;exact MN (by omega)
 rw[h1,h2];simp
section
variable {md:Option Bool} {X:Nat->Prop} {w0 w w':World} {H0:Bool->Hp} {ν ν':Nu} {oF:OF} {is:List Nat} {nx nn:Nat}
theorem pf(hν:∀k,nx<=k->k<nx+nn->ν k=none)(hp:∀k,k<is.length->ν' k=dV ν is k){k:Nat}{x:Option Nat×Nat×Nat}(hk:k<is.length+nn)(h:ν' k=some x):iH ν ν' is.length nx nn (rn is nx k)=some x:=by
 unfold rn;rcases cw k is.length with h1|h1
 . rw[bV h1];rw[hp k h1]at h;rw[qe,bV h1]at h;have h:ν is[k]=some x:=h;exact Ab.le hν _ _ h
 . rw[fQ h1];show iH ν ν' is.length nx nn (nx+(k-is.length))=some x;rw[Ro (by omega),show is.length+(k-is.length)=k by omega];exact h
variable {out:List (Nat×Option Ob)} {H H':Bool->Hp}
theorem LW(hν:∀k,nx<=k->k<nx+nn->ν k=none)(hp:∀k,k<is.length->ν' k=dV ν is k)(hH:∀κ,mK md κ=true->Le (H κ) (H' (mv md κ))){l:Lf}{v:Value}(hk:okL md (is.length+nn) l=true)(h:l.R ν' H v):(ri md is nx l).R (iH ν ν' is.length nx nn) H' v:=by
 have lt:∀{i n:Nat},Nat.blt i n=true->i<n:=fun h=>kx h;cases l with
 |v x=>exact h
 |ro r κ xs=>exact Rs.mono h (hH κ hk)
 |cp r κ xs=>exact⟨Rs.mono h.1 (hH κ hk),h.2⟩
 |own i=>obtain⟨b,c,n,h1,h2⟩:=h;exact⟨b,c,n,pf hν hp (lt hk) h1,h2⟩
 |ptr i o=>obtain⟨b,c,h1,h2⟩:=h;exact⟨b,c,pf hν hp (lt hk) h1,h2⟩
 |mp i=>obtain⟨b,c,h1,h2⟩:=h;exact⟨b,c,pf hν hp (lt hk) h1,h2⟩
 |pd q=>cases hk
 |sg i sz lo hi=>cases hk
 |ap i r κ xs=>
  have hk:(Nat.blt i (is.length+nn)&&mK md κ)=true:=hk;rw[fI]at hk;obtain⟨b,c,n,h1,h2⟩:=h;exact⟨b,c,n,pf hν hp (lt hk.1) h1,h2.imp id fun h=>⟨h.1,Rs.mono h.2.1 (hH κ hk.2),h.2.2⟩⟩
theorem CS(hν:∀k,nx<=k->k<nx+nn->ν k=none)(hp:∀k,k<is.length->ν' k=dV ν is k)(hH:∀κ,mK md κ=true->Le (H κ) (H' (mv md κ))):∀{l:List Lf} {v:List Value},l.all (okL md (is.length+nn))=true->cS ν' H l v->cS (iH ν ν' is.length nx nn) H' (l.map (ri md is nx)) v
 |[],_,_,h=>h
 |x::r,_,hk,⟨a,az,h1,h2,h3⟩=>by
  simp only[Cd,fI]at hk;exact⟨a,az,h1,LW hν hp hH hk.1 h2,CS hν hp hH hk.2 h3⟩
theorem FW(hν:∀k,nx<=k->k<nx+nn->ν k=none)(hp:∀k,k<is.length->ν' k=dV ν is k)(hH:∀κ,mK md κ=true->Le (H κ) (H' (mv md κ))):∀{l:List S1} {v:List Value},l.all (o5 md (is.length+nn))=true->dO ν' H l v->dO (iH ν ν' is.length nx nn) H' (l.map (kM md is nx)) v
 |[],_,_,h=>h
 |.lf x::r,_,hk,⟨a,az,h1,h2,h3⟩=>by
  simp only[Cd,fI]at hk;exact⟨a,az,h1,LW (l:=x) hν hp hH hk.1 h2,FW hν hp hH hk.2 h3⟩
 |.agg x::r,_,hk,⟨a,az,h1,⟨vs,h2,h4⟩,h3⟩=>by
  simp only[Cd,fI]at hk;exact⟨a,az,h1,⟨vs,h2,CS hν hp hH hk.1 h4⟩,FW hν hp hH hk.2 h3⟩
theorem SJ(hν:∀k,nx<=k->k<nx+nn->ν k=none)(hp:∀k,k<is.length->ν' k=dV ν is k)(hH:∀κ,mK md κ=true->Le (H κ) (H' (mv md κ))){c n:Nat}{k:cW}{o:Ob}(hk:okO md (is.length+nn) o=true)(h:o.R ν' H c n k):(ru md is nx o).R (iH ν ν' is.length nx nn) H' c n k:=by
 cases o with
 |row r κ xs=>obtain⟨e1,e0,cs,sp,e2,e3,e4⟩:=h;exact⟨e1,e0,cs,sp,e2,e3.mono (hH κ hk),e4⟩
 |box l=>obtain⟨vs,e1,e2⟩:=h;exact⟨vs,e1,CS hν hp hH hk e2⟩
 |map dk kf vf m=>exact h
 |deep t D xs hs=>cases hk
 |hd h i i' r κ xs=>cases hk
 |aG r κ xs=>
  obtain⟨h0,h⟩:=h;exact⟨h0,h.imp (fun⟨e,cs,sp,g1,g2,g3⟩=>⟨e,cs,sp,g1,g2.mono (hH κ hk),g3⟩) id⟩
theorem O5{ν:Nu}:∀{l:List S1} {vs:List Value},dO ν H l vs->(oE l).R ν H (js vs)
 |[],_,h=>by rw[show _=[] from h];exact⟨[],rfl,rfl⟩
 |[_],_,⟨a,az,h1,h2,h3⟩=>by rw[h1,show az=[] from h3];exact h2
 |_::_::_,_,⟨a,az,h1,h2,a',az',h3,h4,h5⟩=>by rw[h1,h3];exact⟨a::a'::az',rfl,a,_,rfl,h2,a',_,rfl,h4,h5⟩
theorem Ir:∀{out:List (Nat×Option Ob)} {n k:Nat} {o:Option Ob},nY md n out=true->(k,o)∈out->∃ob,o=some ob/\k<n/\okO md n ob=true
 |[],_,_,_,_,h=>by cases h
 |(j,some x)::r,n,k,o,hk,h=>by
  simp only[nY,fI]at hk;rcases eb.1 h with e|e
  . cases e;exact⟨x,rfl,kx hk.1.1,hk.1.2⟩
  . exact Ir hk.2 e
 |(j,none)::r,n,k,o,hk,h=>by cases hk
theorem Kx{α:Type 1}:∀{l:List (Nat×Option α)} {k:Nat} {o:Option α},fL (l.map (·.1))=true->(k,o)∈l->aQ l k=o
 |[],_,_,_,h=>by cases h
 |(j,x)::r,k,o,hn,h=>by
  simp only[jN,fL,fI,Gn]at hn;show(bif Nat.beq k j then x else aQ r k)=o;rcases eb.1 h with e|e
  . cases e;rw[qR];rfl
  . have:Nat.beq k j=false:=by
     cases hb:Nat.beq k j with
     |false=>rfl
     |true=>
      have:=dI hb;subst this;have:=ja.2 (dz.2 ⟨_,e,rfl⟩:k∈r.map (·.1));rw[this]at hn;cases hn.1
    rw[this];exact Kx hn.2 e
def iU:List (Nat×Option Ob)->List (Nat×Ob)
 |[]=>[]
 |(k,some o)::r=>(k,o)::iU r
 |(_,none)::r=>iU r
theorem AA:∀{l:List (Nat×Option Ob)} {k:Nat} {o:Ob},(k,o)∈iU l↔(k,some o)∈l
 |[],_,_=>by simp[iU]
 |(j,some x)::r,k,o=>by simp[iU,AA (l:=r)]
 |(j,none)::r,k,o=>by simp[iU,AA (l:=r)]
theorem FH:∀{l:List Nat} {k:Nat} {o:Option Ob},(k,o)∈gW l->k∈l/\o=none
 |[],_,_,h=>by cases h
 |i::r,k,o,h=>by
  rcases eb.1 h with e|e
  . cases e;exact⟨cO,rfl⟩
  . obtain⟨h1,h2⟩:=FH e;exact⟨cJ _ h1,h2⟩
theorem Ak:∀{l:List Nat},(gW l).map (·.1)=l
 |[]=>rfl
 |i::r=>by show i::(gW r).map (·.1)=_;rw[Ak]
theorem Ke{ν:Nu}{w:World}{H:Bool->Hp}:∀{l:List (Nat×Ob)},(∀x∈l,∃b c n k,ν x.1=some (b,c,n)/\dC w b k/\x.2.R ν H c n k)->(l.map (·.1)).Nodup->(∀x∈l,∀y∈l,∀b,dt ν x.1=some b->dt ν y.1=some b->x.1=y.1)->
 ∃C,gB w (Os ν l) C/\iV (Os ν l)/\ObsR ν H l C
 |[],_,_,_=>⟨[],trivial,trivial,rfl⟩
 |x::r,h,hn,hd=>by
  obtain⟨b,c,n,k,h1,h2,h3⟩:=h x cO;have hn':=MT.1 (show(x.1::r.map (·.1)).Nodup from hn);obtain⟨C,g1,g2,g3⟩:=Ke (l:=r) (fun y hy=>h y (cJ _ hy)) hn'.2 (fun y hy z hz=>hd y (cJ _ hy) z (cJ _ hz));refine⟨k::C,?_,?_,b,c,n,k,C,rfl,h1,h3,g3⟩
  . show dC w (dt ν x.1) k/\_;rw[ep h1];exact⟨h2,g1⟩
  . show iV (dt ν x.1::Os ν r);cases hb:dt ν x.1 with
    |none=>exact g2
    |some b'=>
     refine⟨fun hm=>?_,g2⟩;obtain⟨y,q1,q2⟩:=IL hm;have:=hd x cO y (cJ _ q1) b' hb q2;exact hn'.1 (dz.2 ⟨y,q1,this.symm⟩)
end
section
variable {P:Program} {L:SS}
theorem Ug{md:Option Bool}{is:List Nat}{o0 oF:OF}(ho:∀i ob,o0 i=some ob->oF i=some ob):∀{l:List Nat} {ib ib':List Ob},iZ md o0 is l ib=some ib'->iZ md oF is l ib=some ib':=by
 have upL:∀{a b l:Lf},nW md o0 is a b=some l->nW md oF is a b=some l:=by
  intro a b l h;unfold nW at h⊢;split at h<;>first|exact h|skip
  split at h<;>first|exact h|skip
  split at h<;>first|exact h|skip
  split at h
  . rename_i hi;rw[ho _ _ hi];exact h
  . cases h
  split at h<;>first|exact h|skip
  split at h
  . rename_i hi;rw[ho _ _ hi];exact h
  . cases h
 have upLs:∀{a b l:List Lf},mA md o0 is a b=some l->mA md oF is a b=some l:=by
  intro a
  induction a with
  |nil=>intro b l h;cases b<;>exact h
  |cons x r ih=>
   intro b l h;cases b with
   |nil=>exact h
   |cons y s=>
    simp only[mA]at h⊢;split at h
    . rename_i u hu;rw[upL hu];split at h
      . rename_i z hz;rw[ih hz];exact h
      . cases h
    . cases h
 intro l
 induction l with
 |nil=>intro ib ib' h;cases ib<;>exact h
 |cons i r ih=>
  intro ib ib' h;cases ib with
  |nil=>exact h
  |cons b s=>
   simp only[iZ]at h⊢;split at h
   . rename_i a ha;rw[ho _ _ ha];dsimp only;split at h
     . rename_i x hx;have hx':rF md oF is a b=some x:=by
        unfold rF at hx⊢;split at hx<;>first|exact hx|skip
        split at hx
        . rename_i q hq;rw[upLs hq];exact hx
        . cases hx
       rw[hx'];dsimp only;split at h
       . rename_i y hy;rw[ih hy];exact h
       . cases h
     . cases h
   . cases h
theorem Fv{md:Option Bool}{is:List Nat}{o0 oF:OF}(ho:∀i ob,o0 i=some ob->oF i=some ob):∀{a b l:List S1},kg md o0 is a b=some l->kg md oF is a b=some l:=by
 have upL:∀{a b l:Lf},nW md o0 is a b=some l->nW md oF is a b=some l:=by
  intro a b l h;unfold nW at h⊢;split at h<;>first|exact h|skip
  split at h<;>first|exact h|skip
  split at h<;>first|exact h|skip
  split at h
  . rename_i hi;rw[ho _ _ hi];exact h
  . cases h
  split at h<;>first|exact h|skip
  split at h
  . rename_i hi;rw[ho _ _ hi];exact h
  . cases h
 have upLs:∀{a b l:List Lf},mA md o0 is a b=some l->mA md oF is a b=some l:=by
  intro a
  induction a with
  |nil=>intro b l h;cases b<;>exact h
  |cons x r ih=>
   intro b l h;cases b with
   |nil=>exact h
   |cons y s=>
    simp only[mA]at h⊢;split at h
    . rename_i u hu;rw[upL hu];split at h
      . rename_i z hz;rw[ih hz];exact h
      . cases h
    . cases h
 intro a
 induction a with
 |nil=>intro b l h;cases b<;>exact h
 |cons x r ih=>
  intro b l h;cases b with
  |nil=>cases x<;>exact h
  |cons y s=>
   cases x<;>cases y<;>simp only[kg]at h⊢<;>first|(cases h;done)|skip
   . split at h
     . rename_i u hu;rw[upL hu];split at h
       . rename_i z hz;rw[ih hz];exact h
       . cases h
     . cases h
   . split at h
     . rename_i u hu;rw[upLs hu];split at h
       . rename_i z hz;rw[ih hz];exact h
       . cases h
     . cases h
theorem BI(md:Option Bool)(is:List Nat)(nn nx:Nat){X:Nat->Prop}{w0 w w':World}{H0:Bool->Hp}{ν ν':Nu}{oF:OF}{e:Env}{rs:List S1}{vs:List Value}{out:List (Nat×Option Ob)}(hS:cI X w0 H0 ν oF w)(hI:∀i∈is,∃ob,oF i=some ob)(hn:fL is=true)
    (h1:nY md (is.length+nn) out=true)(h2:rs.all (o5 md (is.length+nn))=true)(h3:fL (out.map (·.1))=true)(hνx:∀k,nx<=k->k<nx+nn->ν k=none)
    (hp:∀k,k<is.length->ν' k=dV ν is k)(hE:cI (Xc ν is) w (Hc md (HF X w0 H0 ν oF w) (Xc ν is) w) ν' (aQ out) w')(hr:dO ν' (HF (Xc ν is) w (Hc md (HF X w0 H0 ν oF w) (Xc ν is) w) ν' (aQ out) w') rs vs):
    ∃ν2,iz nx nn ν ν2/\cI X w0 H0 ν2 (bJ (eZ md is nx out++gW is) oF) w'/\(∀κ,Le (HF X w0 H0 ν oF w κ) (HF X w0 H0 ν2 (bJ (eZ md is nx out++gW is) oF) w' κ))/\di ν2 (HF X w0 H0 ν2 (bJ (eZ md is nx out++gW is) oF) w') (aQ []) e/\svR ν2 (HF X w0 H0 ν2 (bJ (eZ md is nx out++gW is) oF) w') (some (oE (rs.map (kM md is nx)))) (js vs):=by
  refine⟨iH ν ν' is.length nx nn,Ab,?_⟩;have keysO:∀{k:Nat} {o:Ob},(k,some o)∈out->k<is.length+nn/\okO md (is.length+nn) o=true:=fun h=>by
    obtain⟨ob,g1,g2,g3⟩:=Ir h1 h;cases g1;exact⟨g2,g3⟩
  have getO:∀{k:Nat} {o:Ob},(k,some o)∈out->aQ out k=some o:=fun h=>Kx h3 h;have rnI:∀{k k':Nat},k<is.length+nn->k'<is.length+nn->(∃x,ν' k=some x)->(∃x,ν' k'=some x)->rn is nx k=rn is nx k'->k=k':=by
    intro k k' hk hk' hx hx' he;have old:∀{k:Nat},k<is.length->(∃x,ν' k=some x)->∃x,ν (rn is nx k)=some x:=by
      intro k hk ⟨x,hx⟩;rw[hp k hk]at hx;rw[qe]at hx;unfold rn;rw[bV hk]at hx⊢;exact⟨x,hx⟩
    have new:∀{k:Nat},is.length<=k->k<is.length+nn->rn is nx k=nx+(k-is.length)/\ν (rn is nx k)=none:=by
      intro k hk hk2;have e:rn is nx k=nx+(k-is.length):=by unfold rn;rw[fQ hk]
      exact⟨e,by rw[e];exact hνx _ (by omega) (by omega)⟩
    rcases cw k is.length with g|g<;>rcases cw k' is.length with g'|g'
    . have e1:rn is nx k=is[k]:=by unfold rn;rw[bV g]
      have e2:rn is nx k'=is[k']:=by unfold rn;rw[bV g']
      rw[e1,e2]at he;exact zZ hn (bV g) (by rw[bV g',he])
    . obtain⟨x,hx⟩:=old g hx;rw[he,(new g' hk').2]at hx;cases hx
    . obtain⟨x,hx⟩:=old g' hx';rw[<-he,(new g hk).2]at hx;cases hx
    . have a:=(new g hk).1;have b:=(new g' hk').1;omega
  have hasν:∀{k:Nat} {o:Ob},(k,some o)∈out->∃x,ν' k=some x:=fun h=>by
    obtain⟨b,c,n,kk,q1,_⟩:=hE.cT _ _ (getO h);exact⟨_,q1⟩
  have nw:∀x∈iU (eZ md is nx out),∃k o,(k,some o)∈out/\x=(rn is nx k,ru md is nx o):=by
    have gen:∀(l:List (Nat×Option Ob)),∀x∈iU (eZ md is nx l),∃k o,(k,some o)∈l/\x=(rn is nx k,ru md is nx o):=by
      intro l
      induction l with
      |nil=>intro x hx;cases hx
      |cons y r ih=>
        obtain⟨j,o⟩:=y;intro x hx;cases o with
        |none=>obtain⟨k,o,g1,g2⟩:=ih x hx;exact⟨k,o,cJ _ g1,g2⟩
        |some o=>
          rcases eb.1 (show x∈(rn is nx j,ru md is nx o)::iU (eZ md is nx r) from hx)with e|e
          . exact⟨j,o,cO,e⟩
          . obtain⟨k,o,g1,g2⟩:=ih x e;exact⟨k,o,cJ _ g1,g2⟩
    exact gen out
  have hle0:∀(H':Bool->Hp),(∀κ,Le (HF X w0 H0 ν oF w κ) (H' κ))->(∀κ b o,(Xc ν is b\/w.heap.size<=b)->¬Ow ν' (aQ out) b->kI (w'.heap[b]?)=some o->H' κ b=some o)->∀κ,mK md κ=true->Le (HF (Xc ν is) w (Hc md (HF X w0 H0 ν oF w) (Xc ν is) w) ν' (aQ out) w' κ) (H' (mv md κ)):=by
    intro H' hH hn κ hk b o h;rcases ra h with⟨g1,g1',g2⟩|⟨g1,g2,g3⟩
    . cases κ with
      |true=>
        have e:mv md true=true:=by cases md<;>rfl
        rw[e];exact hH true b o g2
      |false=>cases md with
        |none=>cases hk
        |some κ0=>exact hH κ0 b o g2
    . exact hn _ b o g1 g2 g3
  have rel:∀(H':Bool->Hp),(∀κ,Le (HF X w0 H0 ν oF w κ) (H' κ))->(∀κ b o,(Xc ν is b\/w.heap.size<=b)->¬Ow ν' (aQ out) b->kI (w'.heap[b]?)=some o->H' κ b=some o)->
      (∀x∈iU (eZ md is nx out),∃b c n k,iH ν ν' is.length nx nn x.1=some (b,c,n)/\dC w' b k/\x.2.R (iH ν ν' is.length nx nn) H' c n k):=by
    intro H' hH hN x hx;obtain⟨k,o,g1,rfl⟩:=nw x hx;obtain⟨b,c,n,kk,q1,q2,q3⟩:=hE.cT k o (getO g1);obtain⟨g2,g3⟩:=keysO g1;exact⟨b,c,n,kk,pf hνx hp g2 q1,q2,SJ hνx hp (hle0 H' hH hN) g3 q3⟩
  have dist':∀x∈iU (eZ md is nx out),∀y∈iU (eZ md is nx out),∀b,dt (iH ν ν' is.length nx nn) x.1=some b->dt (iH ν ν' is.length nx nn) y.1=some b->x.1=y.1:=by
    intro x hx y hy b hxb hyb;obtain⟨k,o,g1,rfl⟩:=nw x hx;obtain⟨k',o',g1',rfl⟩:=nw y hy;obtain⟨⟨b1,c1⟩,q1⟩:=hasν g1;obtain⟨⟨b2,c2⟩,q2⟩:=hasν g1';have e1:=pf hνx hp (keysO g1).1 q1;have e2:=pf hνx hp (keysO g1').1 q2;dsimp only at hxb hyb;rw[ep e1]at hxb;rw[ep e2]at hyb;subst hxb;subst hyb;have:=hE.gG k k' o o' b (getO g1) (getO g1') (.inl (ep q1)) (.inl (ep q2));subst this;rfl
  have nodup':((iU (eZ md is nx out)).map (·.1)).Nodup:=by
    have gen:∀(l:List (Nat×Option Ob)),(∀x∈l,x∈out)->fL (l.map (·.1))=true->((iU (eZ md is nx l)).map (·.1)).Nodup/\∀k∈(iU (eZ md is nx l)).map (·.1),∃j o,(j,some o)∈l/\k=rn is nx j:=by
      intro l
      induction l with
      |nil=>intro _ _;exact⟨List.nodup_nil,fun k hk=>by cases hk⟩
      |cons y r ih=>
        obtain⟨j,o⟩:=y;intro hsub hnd;simp only[jN,fL,fI,Gn]at hnd;obtain⟨i1,i2⟩:=ih (fun x hx=>hsub x (cJ _ hx)) hnd.2;cases o with
        |none=>exact⟨i1,fun k hk=>by obtain⟨j',o',g1,g2⟩:=i2 k hk;exact⟨j',o',cJ _ g1,g2⟩⟩
        |some o=>
          refine⟨MT.2 ⟨fun hm=>?_,i1⟩,fun k hk=>?_⟩
          . obtain⟨j',o',g1,g2⟩:=i2 _ hm;have hj:=hsub _ cO;have hj':=hsub _ (cJ _ g1);have:=rnI (keysO hj).1 (keysO hj').1 (hasν hj) (hasν hj') g2;subst this;have:=ja.2 (dz.2 ⟨_,g1,rfl⟩:j∈r.map (·.1));rw[this]at hnd;cases hnd.1
          . rcases eb.1 (show k∈rn is nx j::(iU (eZ md is nx r)).map (·.1) from hk)with e|e
            . exact⟨j,o,cO,e⟩
            . obtain⟨j',o',g1,g2⟩:=i2 k e;exact⟨j',o',cJ _ g1,g2⟩
    exact(gen out (fun _ h=>h) h3).1
  obtain⟨C',l1,l2,l3⟩:=Ke (H:=fun _ b=>w'.heap[b]?) (fun x hx=>rel (fun _ b=>w'.heap[b]?) (fun κ b o hb=>by
    obtain⟨g1,g2⟩:=hS.rd hb;have:¬Xc ν is b:=fun hx=>g2 (AL hI hx);have:=hE.keep b (kq g1) this;show w'.heap[b]?=some o;rw[this];exact g1) (fun κ b o _ _ h=>mr h) x hx) nodup' dist'
  have hO:∀b,some b∈is.map (dt ν)->Xc ν is b:=fun b hb=>by
    obtain⟨i,g1,g2⟩:=dz.1 hb;exact⟨i,g1,g2⟩
  have hO':∀b,Xc ν is b->some b∈is.map (dt ν):=fun b ⟨i,g1,g2⟩=>dz.2 ⟨i,g1,g2⟩;have hLoc:Go.X.Loc (is.map (dt ν)) [] w w' (Os (iH ν ν' is.length nx nn) (iU (eZ md is nx out))) C':=by
    refine⟨hE.os,hE.tape,hE.output,hE.size,fun k hk hx=>hE.keep k hk (fun h=>hx (hO' k h)),l1,fun b hb=>?_,l2,fun _ _ h=>(by cases h),fun _ h=>(by cases h)⟩;obtain⟨x,g1,g2⟩:=IL hb;obtain⟨k,o,g3,rfl⟩:=nw x g1;obtain⟨⟨b1,c1⟩,q1⟩:=hasν g3;dsimp only at g2;rw[ep (pf hνx hp (keysO g3).1 q1)]at g2;subst g2;rcases hE.fresh k o b (getO g3) (.inl (ep q1))with g|g
    . exact .inl (hO' b g)
    . exact .inr g
  have owN:∀{b:Nat},(Xc ν is b\/w.heap.size<=b)->¬Ow ν' (aQ out) b->¬Ow (iH ν ν' is.length nx nn) (bJ (eZ md is nx out++gW is) oF) b:=by
    rintro b hb hno ⟨i,ob,g1,g2⟩;rcases jI g1 with g3|⟨g3,g4⟩
    . rcases fR.1 g3 with g3|g3
      . obtain⟨k,o,q1,q2⟩:=nw (i,ob) (AA.2 g3);cases q2;obtain⟨⟨b1,c1⟩,q3⟩:=hasν q1;have g2:=(pZ (ν:=iH ν ν' is.length nx nn) (by rw[L5];exact LH (keysO q1).2)).1 g2;rw[ep (pf hνx hp (keysO q1).1 q3)]at g2;subst g2;exact hno ⟨k,o,getO q1,.inl (ep q3)⟩
      . have:=(FH g3).2;cases this
    . obtain⟨b1,c,n,kk,q1,q2,_⟩:=hS.cT i ob g3;have e:dt (iH ν ν' is.length nx nn) i=b1:=ep (Ab.le hνx _ _ q1);have g2:fK ν i ob b:=by
        rcases g2 with g2|g2
        . exact .inl (by rw[ep q1,<-e];exact g2)
        . exact .inr (by unfold gZ at g2⊢;rw[e]at g2;rw[ep q1];exact g2)
      have q2:b<w.heap.size:=hS.ltO g3 g2;rcases hb with hb|hb
      . obtain⟨j,q4,q5⟩:=hb;obtain⟨oj,q6⟩:=hI j q4;have:=hS.gG i j ob oj b g3 q6 g2 (.inl q5);subst this;have hm:cr i ((eZ md is nx out++gW is).map (·.1))=true:=ja.2 (by
          rw[jg,Ak];exact vR _ q4)
        rw[hm]at g4;cases g4
      . omega
  have hN:∀(κ:Bool) b o,(Xc ν is b\/w.heap.size<=b)->¬Ow ν' (aQ out) b->kI (w'.heap[b]?)=some o->HF X w0 H0 (iH ν ν' is.length nx nn) (bJ (eZ md is nx out++gW is) oF) w' κ b=some o:=by
    intro κ b o hb hno hw;refine k9 ?_ (owN hb hno) hw;rcases hb with⟨i,q1,q2⟩|hb
    . obtain⟨oi,q3⟩:=hI i q1;exact hS.fresh i oi b q3 (.inl q2)
    . exact .inr (bO hS.size hb)
  have hF':∀i ob,bJ (eZ md is nx out++gW is) oF i=some ob->(oF i=some ob/\i∉is)\/(i,ob)∈iU (eZ md is nx out):=by
    intro i ob h;rcases jI h with h|⟨h,h'⟩
    . rcases fR.1 h with h|h
      . exact .inr (AA.2 h)
      . have:=(FH h).2;cases this
    . refine .inl ⟨h,fun hm=>?_⟩;have:cr i ((eZ md is nx out++gW is).map (·.1))=true:=ja.2 (by
        rw[jg,Ak];exact vR _ hm)
      rw[this]at h';cases h'
  obtain⟨k1,k2⟩:=hS.go (T:=is) (O:=is.map (dt ν)) (oF':=bJ (eZ md is nx out++gW is) oF) (new:=iU (eZ md is nx out)) (ν':=iH ν ν' is.length nx nn)
    (fun b hb=>by obtain⟨i,g1,g2⟩:=dz.1 hb;obtain⟨ob,g3⟩:=hI i g1;exact⟨i,g1,ob,g3,g2⟩) hLoc (Ab.le hνx) rfl nodup' hF' (fun hle=>rel _ hle hN) (fun x hx=>by obtain⟨k,o,g1,rfl⟩:=nw x hx;show(ru md is nx o).tid=none;rw[L5];exact LH (keysO g1).2) ⟨rfl,rfl⟩
  exact⟨k1,k2,my,O5 (FW hνx hp (hle0 _ k2 hN) h2 hr)⟩
theorem Mh(md:Option Bool)(is:List Nat)(nn:Nat){f:FuncId}{args:List Operand}{ats:Array TypeId}{ty:TypeId}{l0 ls az rs:List S1}{ib:List Ob}{out:List (Nat×Option Ob)}(c:Cx P f az ib out rs)(ha:nP L args=some l0)(hc:∀ν H v,dO ν H l0 v->dO ν H ls v)(hl:kg md (aQ L.bC) is ls az=some az)(hb:iZ md (aQ L.bC) is is ib=some ib)(hn:fL is=true)
 (h1:nY md (is.length+nn) out=true)(h2:rs.all (o5 md (is.length+nn))=true)(h3:fL (out.map (·.1))=true):
 LT P L (.call {callee:=.value (.func f),args:=args.toArray,argTypes:=ats}) ty ⟨nn,eZ md is L.nx out++gW is,[]⟩ (some (oE (rs.map (kM md is L.nx)))):=by
 refine⟨fun X w0 H0 ν oF e w ho hν hS hs=>?_⟩;have hb:=Ug ho hb;have hl:=Fv ho hl;have hI:=sE hb;have hlen:ib.length=is.length:=Ms hb;have hin:=hS.AX hn hb;have hargs:=wb hS hI (qx (md:=md) (νc:=dV ν is) (cF:=aQ (eu 0 ib)) hS hI) hl (hc _ _ _ (Ao hs ha));refine aF.IZ c.1 rfl rfl (c.2 (Xc ν is) w _ (dV ν is) _ (fun k hk=>by rw[qe,fQ (by omega)];rfl) hin hargs) ?_;rintro en w' ⟨vs,rfl,ν',hp,hE,hr⟩;rw[hlen]at hp;exact⟨js vs,rfl,BI md is nn L.nx hS hI hn h1 h2 h3 hν hp hE hr⟩
theorem Io(md:Option Bool)(is:List Nat)(nn:Nat){f:FuncId}{args:List Operand}{ats:Array TypeId}{ty:TypeId}{ls az rs:List S1}{ib:List Ob}{out:List (Nat×Option Ob)}(c:Cx P f az ib out rs)(ha:nP L args=some ls)(hl:kg md (aQ L.bC) is ls az=some az)(hb:iZ md (aQ L.bC) is is ib=some ib)(hn:fL is=true)
 (h1:nY md (is.length+nn) out=true)(h2:rs.all (o5 md (is.length+nn))=true)(h3:fL (out.map (·.1))=true):
 LT P L (.call {callee:=.value (.func f),args:=args.toArray,argTypes:=ats}) ty ⟨nn,eZ md is L.nx out++gW is,[]⟩ (some (oE (rs.map (kM md is L.nx)))):=Mh md is nn c ha (fun _ _ _ h=>h) hl hb hn h1 h2 h3
end
open Go Go.RowKit Go.X
variable [eW]
class aO {α:Type} (r:bQ α)where
 cl:Bool->α->List Lf
 op:∀{ν:Nu} {H:Bool->Hp} {κ:Bool} {vs:List Value} {x:α},r.R (H κ) vs x->cS ν H (cl κ x) vs
 co:∀{ν:Nu} {H:Bool->Hp} {κ:Bool} {vs:List Value} {x:α},cS ν H (cl κ x) vs->r.R (H κ) vs x
instance {k:IntKind}:aO (aD k):=⟨fun _ x=>[.v (.int k x)],fun h=>⟨_,[],h,⟨rfl,rfl⟩,rfl⟩,fun⟨_,_,h1,h2,h3⟩=>by rw[h1,h2.1,show _=[] from h3];rfl⟩
instance:aO yS:=⟨fun _ x=>[.v (.bool x)],fun h=>⟨_,[],h,⟨rfl,rfl⟩,rfl⟩,fun⟨_,_,h1,h2,h3⟩=>by rw[h1,h2.1,show _=[] from h3];rfl⟩
instance:aO gI:=⟨fun _ x=>[.v (.string (s8 x))],fun h=>⟨_,[],h,⟨rfl,rfl⟩,rfl⟩,fun⟨_,_,h1,h2,h3⟩=>by rw[h1,h2.1,show _=[] from h3];rfl⟩
instance {α:Type}{r:bQ α}:aO (aV r):=⟨fun κ x=>[.ro r κ x],fun⟨v,h1,h2⟩=>⟨v,[],h1,h2,rfl⟩,fun⟨v,_,h1,h2,h3⟩=>⟨v,by rw[h1,show _=[] from h3],h2⟩⟩
abbrev sI(k:IntKind)(x:Int):S1:=.lf (.v (.int k x))
abbrev sB(x:Bool):S1:=.lf (.v (.bool x))
abbrev sT(x:List UInt8):S1:=.lf (.v (.string (s8 x)))
abbrev sR{α:Type}(r:bQ α)(κ:Bool)(xs:List α):S1:=.lf (.ro r κ xs)
abbrev sA{α:Type}(r:bQ α)[aO r](κ:Bool)(x:α):S1:=.agg (aO.cl r κ x)
abbrev sO(i:Nat):S1:=.lf (.own i)
abbrev lI(k:IntKind)(x:Int):Lf:=.v (.int k x)
abbrev lB(x:Bool):Lf:=.v (.bool x)
abbrev lN:Lf:=.v (.slice none 0 0)
abbrev vl(t:Nat)(l:Lf):Nat×Option Sv:=(t,some (.s (.lf l)))
abbrev vi(t:Nat)(x:Int):Nat×Option Sv:=(t,some (.s (sI .i64 x)))
abbrev vk(t:Nat)(k:IntKind)(x:Int):Nat×Option Sv:=(t,some (.s (sI k x)))
abbrev vb(t:Nat)(x:Bool):Nat×Option Sv:=(t,some (.s (sB x)))
abbrev vt(t:Nat)(x:List UInt8):Nat×Option Sv:=(t,some (.s (sT x)))
abbrev vr(t:Nat){α:Type}(r:bQ α)(κ:Bool)(xs:List α):Nat×Option Sv:=(t,some (.s (sR r κ xs)))
abbrev vo(t i:Nat):Nat×Option Sv:=(t,some (.s (.lf (.own i))))
abbrev vp(t i:Nat):Nat×Option Sv:=(t,some (.s (.lf (.ptr i 0))))
section
variable {P:Program} {tb:List (dF P)} {L:SS} {o:Oper} {ef:Ef} {sv:Option Sv} {K:Ef->Option Sv->Prop}
theorem bZ.of(h:LT P L o.op o.type ef sv)(nx:K ef sv):bZ tb o L K:=⟨ef,sv,h,nx⟩
theorem iP{t s:Nat}{T:dF P}(h:cE tb t=some T)(hs:T.sz=s):TI P t s T.pY T.z:=by subst hs;exact fV h
theorem gm{t:Nat}{T:dF P}{d:TypeDesc}(h:cE tb t=some T)(hd:T.d=d):P.underlying t=some d:=by subst hd;exact gx h
structure Vw (L:SS)(ef:Ef):Prop where
 ok:∀(X:Nat->Prop) (w0:World) (H0:Bool->Hp) (ν:Nu) (oF:OF) (e:Env) (w:World),(∀i ob,aQ L.bC i=some ob->oF i=some ob)->(∀k,L.nx<=k->k<L.nx+ef.n->ν k=none)->cI X w0 H0 ν oF w->di ν (HF X w0 H0 ν oF w) (aQ L.bP) e->
  ∃ν',iz L.nx ef.n ν ν'/\cI X w0 H0 ν' (bJ ef.up oF) w/\(∀κ,Le (HF X w0 H0 ν oF w κ) (HF X w0 H0 ν' (bJ ef.up oF) w κ))/\di ν' (HF X w0 H0 ν' (bJ ef.up oF) w) (aQ ef.sl) e
def Ef.comp(a b:Ef):Ef:=⟨a.n+b.n,b.up++a.up,b.sl++a.sl⟩
theorem oZ{α:Type 1}:∀{l r:List (Nat×Option α)} {f:Nat->Option α},bJ (l++r) f=bJ l (bJ r f)
 |[],_,_=>rfl
 |(d,s)::l,r,f=>by funext t;show(bif _ then _ else bJ (l++r) f t)=(bif _ then _ else bJ l (bJ r f) t);rw[oZ]
theorem Mp{α:Type 1}{l:List (Nat×Option α)}{f g:Nat->Option α}(h:∀i x,f i=some x->g i=some x):∀i x,bJ l f i=some x->bJ l g i=some x:=by
 intro i x hx;cases hm:cr i (l.map (·.1))with
 |true=>rw[<-hx];exact qb hm
 |false=>rw[jY hm]at hx⊢;exact h i x hx
theorem po{a:Ef}(v:Vw L a)(h:bZ tb o (L.lG a) fun ef sv=>K (a.comp ef) sv):bZ tb o L K:=by
 obtain⟨ef,sv,hl,hk⟩:=h.ok;refine⟨a.comp ef,sv,⟨fun X w0 H0 ν oF e w ho hn hS hs=>?_⟩,hk⟩;obtain⟨ν1,g1,g2,g3,g4⟩:=v.ok X w0 H0 ν oF e w ho (fun k h1 h2=>hn k h1 (by show k<L.nx+(a.n+ef.n);omega)) hS hs;have hle:=g1.le (fun k h1 h2=>hn k h1 (by show k<L.nx+(a.n+ef.n);omega));refine(hl.ok X w0 H0 ν1 (bJ a.up oF) e w (by rw[pD];exact Mp ho) (fun k h1 h2=>?_) g2 (by rw[ry];exact(hs.mono hle g3).ap g4)).mono ?_
 . have h1:L.nx+a.n<=k:=h1;have h2:k<L.nx+a.n+ef.n:=h2;rw[g1 k (.inr h1)];exact hn k (by omega) (by show k<L.nx+(a.n+ef.n);omega)
 . rintro v w' ⟨ν2,q1,q2,q3,q4,q5⟩;rw[<-oZ]at q2 q3 q4 q5;have hle2:eR ν1 ν2:=q1.le (fun k h1 h2=>by
    have h1:L.nx+a.n<=k:=h1;have h2:k<L.nx+a.n+ef.n:=h2;rw[g1 k (.inr h1)];exact hn k (by omega) (by show k<L.nx+(a.n+ef.n);omega))
   refine⟨ν2,fun k hk=>?_,q2,fun κ=>Le.trans (g3 κ) (q3 κ),?_,q5⟩
   . rw[q1 k (by have:k<L.nx\/L.nx+(a.n+ef.n)<=k:=hk;show k<L.nx+a.n\/L.nx+a.n+ef.n<=k;omega),g1 k (by have:k<L.nx\/L.nx+(a.n+ef.n)<=k:=hk;omega)]
   . have e1:aQ (a.comp ef).sl=bJ ef.sl (aQ a.sl):=by funext t;exact qK _ _ _
     rw[e1];exact(g4.mono hle2 q3).ap q4
theorem Vw.st{F:Fx}{a:Ef}(v:Vw L a){e:Env}{w:World}(h:St F L e w):St F (L.lG a) e w:=by
 obtain⟨ν,h1,h2,h3,h4,h5⟩:=h;obtain⟨ν',g1,g2,g3,g4⟩:=v.ok F.X F.w0 F.H0 ν (aQ L.bC) e w (fun _ _ h=>h) (fun k hk _=>h1 k hk) h4 h5;refine⟨ν',fun k hk=>?_,?_,fun k hk=>?_,by rw[pD];exact g2,?_⟩
 . have hk:L.nx+a.n<=k:=hk;rw[g1 k (.inr hk)];exact h1 k (by omega)
 . show F.m<=L.nx+a.n;omega
 . rw[g1 k (.inl (by omega))];exact h3 k hk
 . rw[pD,ry];exact(h5.mono (g1.le fun k hk _=>h1 k hk) g3).ap g4
theorem ps{F:Fx}{a:Ef}{k:List It}(v:Vw L a)(nx:ju tb F k (L.lG a)):ju tb F k L:=⟨fun e w hs=>nx.ok e w (v.st hs)⟩
theorem pk{F:Fx}{a:Ef}{J:Env->World->Prop}(v:Vw L a)(nx:tN tb F J (L.lG a)):tN tb F J L:=⟨fun e w hs=>nx.ok e w (v.st hs)⟩
theorem pr{F:Fx}{a:Ef}(v:Vw L a)(nx:uj tb F (L.lG a)):uj tb F L:=⟨fun e w hs=>nx.ok e w (v.st hs)⟩
theorem yQ{w:World}:Go.X.Loc [] [] w w [none] [.cells []]:=(nI (w:=w)).O9.1
theorem nl{α:Type}(t:Nat)(rp:bQ α)(ht:aQ L.bP t=some (.s (.lf (.v (.slice none 0 0)))):=by rfl)(hz:(rp.sz==0)=false:=by rfl):Vw L ⟨1,[(L.nx,some (.row rp true []))],[(t,some (.s (.lf (.own L.nx))))]⟩:=by
 refine⟨fun X w0 H0 ν oF e w ho hn hS hs=>?_⟩;have hx:=hn L.nx (bK _) (by show L.nx<L.nx+1;omega);obtain⟨g1,g2⟩:=hS.new (ob:=.row rp true []) (c:=0) (n:=0) rfl hx yQ (fun H' _=>⟨rfl,hz,[],[],rfl,rfl,by simp⟩);refine⟨_,oS,g1,g2,fun t' sv h=>?_⟩;have h:(bif Nat.beq t' t then some (Sv.s (.lf (.own L.nx)))else none)=some sv:=h;cases hb:Nat.beq t' t with
 |false=>rw[hb]at h;cases h
 |true=>
  rw[hb]at h;cases h;have:=dI hb;subst this;exact⟨none,0,0,lh,(hs _ _ ht).1⟩
theorem nv{α:Type}(t off:Nat)(rp:bQ α){l:List Lf}(ht:aQ L.bP t=some (.s (.agg l)):=by rfl)(hl:l[off]?=some (.v (.slice none 0 0)):=by rfl)(hz:(rp.sz==0)=false:=by rfl):Vw L ⟨1,[(L.nx,some (.row rp true []))],[(t,some (.s (.agg (l.set off (.own L.nx)))))]⟩:=by
 refine⟨fun X w0 H0 ν oF e w ho hn hS hs=>?_⟩;have hx:=hn L.nx (bK _) (by show L.nx<L.nx+1;omega);obtain⟨g1,g2⟩:=hS.new (ob:=.row rp true []) (c:=0) (n:=0) rfl hx yQ (fun H' _=>⟨rfl,hz,[],[],rfl,rfl,by simp⟩);refine⟨_,oS,g1,g2,fun t' sv h=>?_⟩;have h:(bif Nat.beq t' t then some (Sv.s (.agg (l.set off (.own L.nx))))else none)=some sv:=h;cases hb:Nat.beq t' t with
 |false=>rw[hb]at h;cases h
 |true=>
  rw[hb]at h;cases h;have:=dI hb;subst this;obtain⟨vs,q1,q2⟩:=hs _ _ ht;obtain⟨y,q3,q4⟩:=q2.get hl;have:=(q2.mono (wB hx) g2).set (i:=off) (x:=.own L.nx) (y:=y) ⟨none,0,0,lh,q4.1⟩;refine⟨vs,q1,?_⟩;have e:vs.set off y=vs:=by
   apply pL;intro q;rw[qS];split
   . rename_i hq;subst hq;obtain⟨hlt,hv⟩:=dS.1 q3;rw[if_pos hlt,q3]
   . rfl
  rw[e]at this;exact this
theorem vB{α:Type}{vs:List α}{off:Nat}{y:α}(h:vs[off]?=some y):vs.set off y=vs:=by
 apply pL;intro q;rw[qS];split
 . rename_i hq;subst hq;obtain⟨hlt,hv⟩:=dS.1 h;rw[if_pos hlt,h]
 . rfl
theorem cI.review{X:Nat->Prop}{w0 w:World}{H0:Bool->Hp}{ν:Nu}{oF:OF}(hS:cI X w0 H0 ν oF w){up:List (Nat×Option Ob)}(h:∀i o,(i,o)∈up->∃ob ob',o=some ob'/\oF i=some ob/\ob'.tid=ob.tid/\∀c n k,ob.R ν (HF X w0 H0 ν oF w) c n k->ob'.R ν (HF X w0 H0 ν oF w) c n k):
 cI X w0 H0 ν (bJ up oF) w/\HF X w0 H0 ν (bJ up oF) w=HF X w0 H0 ν oF w:=by
 have ow:∀b,Ow ν (bJ up oF) b↔Ow ν oF b:=by
  intro b;constructor
  . rintro⟨i,ob,g1,g2⟩;rcases jI g1 with g|⟨g,_⟩
    . obtain⟨ob1,ob2,q1,q2,qt,_⟩:=h _ _ g;cases q1;exact⟨i,ob1,q2,by unfold fK gZ at g2⊢;rw[<-qt];exact g2⟩
    . exact⟨i,ob,g,g2⟩
  . rintro⟨i,ob,g1,g2⟩;cases hm:cr i (up.map (·.1))with
    |false=>exact⟨i,ob,by rw[jY hm];exact g1,g2⟩
    |true=>
     cases ha:bJ up oF i with
     |some ob'=>
      refine⟨i,ob',ha,?_⟩;rcases jI ha with g|⟨g,_⟩
      . obtain⟨ob1,ob2,q1,q2,qt,_⟩:=h _ _ g;cases q1;rw[g1]at q2;cases q2;unfold fK gZ at g2⊢;rw[qt];exact g2
      . rw[g1]at g;cases g;exact g2
     |none=>
      exfalso;have key:∀{l:List (Nat×Option Ob)},(∀x∈l,x∈up)->cr i (l.map (·.1))=true->bJ l oF i≠none:=by
       intro l
       induction l with
       |nil=>intro _ h;cases h
       |cons y r ih=>
        obtain⟨d,s⟩:=y;intro hsub hm hn;have hn:(bif Nat.beq i d then s else bJ r oF i)=none:=hn;cases hb:Nat.beq i d with
        |true=>
         rw[hb]at hn;obtain⟨ob1,ob2,q1,_⟩:=h d s (hsub _ cO);rw[q1]at hn;cases hn
        |false=>
         rw[hb]at hn;simp only[jN,cr,hb,Bool.false_or]at hm;exact ih (fun x hx=>hsub x (cJ _ hx)) hm hn
      exact key (fun _ h=>h) hm ha
 have e:HF X w0 H0 ν (bJ up oF) w=HF X w0 H0 ν oF w:=by
  funext κ b;unfold HF;by_cases hb:Ow ν oF b
  . simp only[(ow b).2 hb,hb,if_true]
  . have:¬Ow ν (bJ up oF) b:=fun h=>hb ((ow b).1 h);simp only[this,hb,if_false]
 have at':∀i ob,bJ up oF i=some ob->∃ob0,oF i=some ob0/\ob.tid=ob0.tid/\∀c n k,ob0.R ν (HF X w0 H0 ν oF w) c n k->ob.R ν (HF X w0 H0 ν oF w) c n k:=by
  intro i ob g;rcases jI g with g|⟨g,_⟩
  . obtain⟨ob1,ob2,q1,q2,qt,q3⟩:=h _ _ g;cases q1;exact⟨ob1,q2,qt,q3⟩
  . exact⟨ob,g,rfl,fun _ _ _ h=>h⟩
 have owt:∀{i:Nat} {a b:Ob} {q:Nat},a.tid=b.tid->fK ν i a q->fK ν i b q:=fun ht h=>by unfold fK gZ at h⊢;rw[<-ht];exact h
 refine⟨⟨hS.os,hS.tape,hS.output,hS.size,hS.keep,hS.h0,hS.mw,hS.oB,fun i ob g=>?_,fun i ob b g hb=>?_,fun i j oi oj b g g' h1 h2=>?_,fun i ob g=>?_⟩,e⟩
 . obtain⟨ob0,q1,_,q2⟩:=at' i ob g;obtain⟨b,c,n,k,k1,k2,k3⟩:=hS.cT i ob0 q1;exact⟨b,c,n,k,k1,k2,by rw[e];exact q2 c n k k3⟩
 . obtain⟨ob0,q1,ht,_⟩:=at' i ob g;exact hS.fresh i ob0 b q1 (owt ht hb)
 . obtain⟨o0,q1,ht,_⟩:=at' i oi g;obtain⟨o1,q2,ht',_⟩:=at' j oj g';exact hS.gG i j o0 o1 b q1 q2 (owt ht h1) (owt ht' h2)
 . obtain⟨ob0,q1,ht,_⟩:=at' i ob g;obtain⟨p1,p2,p3⟩:=hS.parts i ob0 q1;have e:gZ ν i ob=gZ ν i ob0:=by unfold gZ;rw[ht]
   exact⟨fun t h=>p1 t (by rw[<-e];exact h),fun b t hb h=>p2 b t hb (by rw[<-e];exact h),fun j hj=>p3 j (by rw[<-ht];exact hj)⟩
theorem nb{α:Type}(i off:Nat)(rp:bQ α){l:List Lf}(hi:aQ L.bC i=some (.box l):=by rfl)(hl:l[off]?=some (.v (.slice none 0 0)):=by rfl)(hne:Nat.beq i L.nx=false:=by rfl)(hz:(rp.sz==0)=false:=by rfl):Vw L ⟨1,[(i,some (.box (l.set off (.own L.nx)))),(L.nx,some (.row rp true []))],[]⟩:=by
 refine⟨fun X w0 H0 ν oF e w ho hn hS hs=>?_⟩;have hx:=hn L.nx (bK _) (by show L.nx<L.nx+1;omega);obtain⟨g1,g2⟩:=hS.new (ob:=.row rp true []) (c:=0) (n:=0) rfl hx yQ (fun H' _=>⟨rfl,hz,[],[],rfl,rfl,by simp⟩);have hoi:bJ [(L.nx,some (Ob.row rp true []))] oF i=some (.box l):=by
  show(bif Nat.beq i L.nx then _ else oF i)=_;rw[hne];exact ho _ _ hi
 obtain⟨k1,k2⟩:=g1.review (up:=[(i,some (.box (l.set off (.own L.nx))))]) (fun j o hj=>by
  simp only[cP,np]at hj;obtain⟨rfl,rfl⟩:=hj;refine⟨.box l,_,rfl,hoi,rfl,?_⟩;rintro c n k ⟨vs,q1,q2⟩;obtain⟨y,q3,q4⟩:=q2.get hl;have:=q2.set (i:=off) (x:=.own L.nx) (y:=y) ⟨none,0,0,lh,q4.1⟩;rw[vB q3]at this;exact⟨vs,q1,this⟩)
 refine⟨_,oS,k1,fun κ=>?_,my⟩;have:HF X w0 H0 (iX ν L.nx (none,0,0)) (bJ [(i,some (Ob.box (l.set off (.own L.nx)))),(L.nx,some (.row rp true []))] oF) w=HF X w0 H0 (iX ν L.nx (none,0,0)) (bJ [(L.nx,some (.row rp true []))] oF) w:=k2;rw[this];exact g2 κ
def pE(j:Nat)(y:Lf):Lf->Lf
 |.own i=>bif Nat.beq i j then y else .own i
 |l=>l
def fz1(j:Nat)(y:Lf):S1->S1
 |.lf l=>.lf (pE j y l)
 |.agg l=>.agg (l.map (pE j y))
def fzV(j:Nat)(y:Lf):Sv->Sv
 |.s x=>.s (fz1 j y x)
 |.fC l=>.fC (l.map (fz1 j y))
 |.pr κ c off=>.pr κ (c.map (pE j y)) off
 |.pw i r xs x ix off=>.pw i r xs x ix off
 |.fc f ps=>.fc f ps
 |.pa i r κ xs x ix off=>.pa i r κ xs x ix off
def rL(j:Nat)(y:Lf)(f:SF):List (Nat×Option Sv)->List (Nat×Option Sv)
 |[]=>[]
 |(t,_)::r=>match f t with
  |some s=>bif cr j (Fi (some s))then(t,some (fzV j y s))::rL j y f r else rL j y f r
  |none=>rL j y f r
def rZ(j:Nat)(y:Lf)(f:OF):List (Nat×Option Ob)->List (Nat×Option Ob)
 |[]=>[]
 |(i,_)::r=>match f i with
  |some (.box l)=>bif cr j (uv l)then(i,some (.box (l.map (pE j y))))::rZ j y f r else rZ j y f r
  |_=>rZ j y f r
section
variable {ν:Nu} {H:Bool->Hp} {j:Nat} {y:Lf}
theorem J6(h:∀a,(Lf.own j).R ν H a->y.R ν H a){l:Lf}{a:Value}(hr:l.R ν H a):(pE j y l).R ν H a:=by
 cases l with
 |own i=>
  show Lf.R ν H (bif Nat.beq i j then y else .own i) a;cases hb:Nat.beq i j with
  |true=>have:=dI hb;subst this;exact h a hr
  |false=>exact hr
 |_=>exact hr
theorem wO(h:∀a,(Lf.own j).R ν H a->y.R ν H a):∀{l:List Lf} {a:List Value},cS ν H l a->cS ν H (l.map (pE j y)) a
 |[],_,hr=>hr
 |_::_,_,⟨a,az,h1,h2,h3⟩=>⟨a,az,h1,J6 h h2,wO h h3⟩
theorem HE(h:∀a,(Lf.own j).R ν H a->y.R ν H a):∀{l:S1} {a:Value},l.R ν H a->(fz1 j y l).R ν H a
 |.lf _,_,hr=>J6 h hr
 |.agg _,_,⟨vs,h1,h2⟩=>⟨vs,h1,wO h h2⟩
theorem Ld(h:∀a,(Lf.own j).R ν H a->y.R ν H a):∀{l:List S1} {a:List Value},dO ν H l a->dO ν H (l.map (fz1 j y)) a
 |[],_,hr=>hr
 |_::_,_,⟨a,az,h1,h2,h3⟩=>⟨a,az,h1,HE h h2,Ld h h3⟩
theorem Hi(h:∀a,(Lf.own j).R ν H a->y.R ν H a):∀{l:Sv} {a:Value},l.R ν H a->(fzV j y l).R ν H a
 |.s _,_,hr=>HE h hr
 |.fC _,_,⟨vs,h1,h2⟩=>⟨vs,h1,Ld h h2⟩
 |.pr κ _ _,_,⟨b,o,vs,h1,h2,h3⟩=>⟨b,o,vs,h1,h2,wO h h3⟩
 |.pw ..,_,hr=>hr
 |.fc ..,_,hr=>hr
 |.pa ..,_,hr=>hr
theorem AF(h:∀a,(Lf.own j).R ν H a->y.R ν H a){f:SF}{e:Env}(hs:di ν H f e):∀{l:List (Nat×Option Sv)},di ν H (aQ (rL j y f l)) e
 |[]=>fun t sv ht=>by cases ht
 |(t,_)::r=>by
  simp only[rL];split
  . rename_i s hf;cases hm:cr j (Fi (some s))with
    |false=>exact AF h hs
    |true=>
     intro t' sv ht;have ht:(bif Nat.beq t' t then some (fzV j y s)else aQ (rL j y f r) t')=some sv:=ht;cases hb:Nat.beq t' t with
     |true=>rw[hb]at ht;cases ht;have:=dI hb;subst this;exact Hi h (hs _ _ hf)
     |false=>rw[hb]at ht;exact AF h hs (l:=r) t' sv ht
  . exact AF h hs
theorem ze{f:OF}:∀{l:List (Nat×Option Ob)} {i:Nat} {o:Option Ob},(i,o)∈rZ j y f l->∃c,f i=some (.box c)/\o=some (.box (c.map (pE j y)))
 |[],_,_,h=>by cases h
 |(k,_)::r,i,o,h=>by
  simp only[rZ]at h;split at h
  . rename_i l hl;cases hm:cr j (uv l)with
    |false=>rw[hm]at h;exact ze h
    |true=>
     rw[hm]at h;rcases eb.1 h with e|e
     . cases e;exact⟨l,hl,rfl⟩
     . exact ze e
  . exact ze h
end
def dls{α:Type 1}:List Nat->List (Nat×Option α)
 |[]=>[]
 |i::r=>(i,none)::dls r
def fzB(j:Nat)(y:Lf):Option Ob->Option Ob
 |some (.box l)=>some (.box (l.map (pE j y)))
 |o=>o
def fzS(j:Nat)(y:Lf):Option Sv->Option Sv
 |some s=>some (fzV j y s)
 |none=>none
def yU(j:Nat)(y:Lf)(f:OF):List Nat->List (Nat×Option Ob)
 |[]=>[]
 |i::r=>(i,fzB j y (f i))::yU j y f r
def Av(j:Nat)(y:Lf)(f:SF):List Nat->List (Nat×Option Sv)
 |[]=>[]
 |t::r=>(t,fzS j y (f t))::Av j y f r
def zM(f:OF):List Nat->Bool
 |[]=>true
 |i::r=>(match f i with|some (.box _)=>true|_=>false)&&zM f r
theorem Lw{j:Nat}{y:Lf}{f:OF}:∀{l:List Nat} {i:Nat} {o:Option Ob},zM f l=true->(i,o)∈yU j y f l->∃c,f i=some (.box c)/\o=some (.box (c.map (pE j y)))
 |[],_,_,_,h=>by cases h
 |k::r,i,o,hb,h=>by
  simp only[zM,fI]at hb;rcases eb.1 h with e|e
  . cases e;have h1:=hb.1;split at h1
    . rename_i c hc;exact⟨c,hc,by rw[hc];rfl⟩
    . cases h1
  . exact Lw hb.2 e
theorem Mn{ν:Nu}{H:Bool->Hp}{j:Nat}{y:Lf}(h:∀a,(Lf.own j).R ν H a->y.R ν H a){f:SF}{e:Env}(hs:di ν H f e):∀{l:List Nat},di ν H (aQ (Av j y f l)) e
 |[]=>fun t sv ht=>by cases ht
 |t::r=>by
  intro t' sv ht;have ht:(bif Nat.beq t' t then fzS j y (f t)else aQ (Av j y f r) t')=some sv:=ht;cases hb:Nat.beq t' t with
  |true=>
   rw[hb]at ht;have:=dI hb;subst this;cases hf:f t' with
   |none=>rw[hf]at ht;cases ht
   |some s=>rw[hf]at ht;cases ht;exact Hi h (hs _ _ hf)
  |false=>rw[hb]at ht;exact Mn h hs (l:=r) t' sv ht
theorem jH{α:Type}(j:Nat)(ts is:List Nat){rp:bQ α}{κ:Bool}{xs:List α}(hj:aQ L.bC j=some (.row rp κ xs):=by rfl):
 Vw L ⟨0,rZ j (.ro rp κ xs) (aQ L.bC) (dls is)++[(j,none)],rL j (.ro rp κ xs) (aQ L.bP) (dls ts)⟩:=by
 refine⟨fun X w0 H0 ν oF e w ho hn hS hs=>?_⟩;obtain⟨b,c,n,kk,q1,q2,e1,e0,cs,sp,e2,e3,e4⟩:=hS.cT j _ (ho j _ hj);subst e2;obtain⟨g1,g2⟩:=hS.go (T:=[j]) (O:=[b]) (new:=[]) (oF':=bJ [(j,none)] oF) (ν':=ν) (fun b' hb=>by simp only[cP]at hb;exact⟨j,by simp,_,ho j _ hj,by rw[ep q1,hb]⟩) ((jr q2).drop 0).1 (eR.refl ν) rfl (by simp)
  (fun i o h=>by
   rcases jI h with h|⟨h,h2⟩
   . simp at h
   . refine .inl ⟨h,fun hm=>?_⟩;simp only[cP]at hm;subst hm;simp[cr]at h2)
  (fun _ x hx=>by cases hx) (fun x hx=>by cases hx) ⟨rfl,rfl⟩
 have hy:∀a,(Lf.own j).R ν (HF X w0 H0 ν (bJ [(j,none)] oF) w) a->(Lf.ro rp κ xs).R ν (HF X w0 H0 ν (bJ [(j,none)] oF) w) a:=by
  rintro a ⟨b',c',n',r1,rfl⟩;rw[q1]at r1;cases r1;cases b with
  |none=>exact qB q2 e3 e0
  |some b=>
   have hno:¬Ow ν (bJ [(j,none)] oF) b:=by
    rintro⟨i,ob,r2,r3⟩;rcases jI r2 with h|⟨h,h2⟩
    . simp at h
    . have:=hS.gG i j ob _ b h (ho j _ hj) r3 (.inl (ep q1));subst this;simp[cr]at h2
   exact wS (px q2 fun q hq=>k9 (hS.fresh j _ b (ho j _ hj) (.inl (ep q1))) hno (vn q2 hq)) (e3.mono (g2 κ)) e0 rfl e1 e4
 obtain⟨k1,k2⟩:=g1.review (up:=rZ j (.ro rp κ xs) (aQ L.bC) (dls is)) (fun i o h=>by
  obtain⟨l,r1,r2⟩:=ze h;refine⟨.box l,_,r2,?_,rfl,?_⟩
  . have hne:i≠j:=by rintro rfl;rw[hj]at r1;cases r1
    show(bif Nat.beq i j then none else oF i)=_;have:Nat.beq i j=false:=by
     cases hb:Nat.beq i j with
     |false=>rfl
     |true=>exact absurd (dI hb) hne
    rw[this];exact ho i _ r1
  . rintro c n k ⟨vs,r3,r4⟩;exact⟨vs,r3,wO hy r4⟩)
 rw[<-oZ]at k1 k2;refine⟨ν,iz.refl,k1,fun κ=>by rw[k2];exact g2 κ,?_⟩;rw[k2];exact AF hy (hs.mono (eR.refl ν) g2)
theorem dE{α:Type}(j:Nat)(ts is:List Nat){rp:bQ α}{κ:Bool}{xs:List α}(hj:aQ L.bC j=some (.row rp κ xs):=by rfl)(hb:zM (aQ L.bC) is=true:=by rfl):
 Vw L ⟨0,yU j (.ro rp κ xs) (aQ L.bC) is++[(j,none)],Av j (.ro rp κ xs) (aQ L.bP) ts⟩:=by
 refine⟨fun X w0 H0 ν oF e w ho hn hS hs=>?_⟩;obtain⟨b,c,n,kk,q1,q2,e1,e0,cs,sp,e2,e3,e4⟩:=hS.cT j _ (ho j _ hj);subst e2;obtain⟨g1,g2⟩:=hS.go (T:=[j]) (O:=[b]) (new:=[]) (oF':=bJ [(j,none)] oF) (ν':=ν) (fun b' hb=>by simp only[cP]at hb;exact⟨j,by simp,_,ho j _ hj,by rw[ep q1,hb]⟩) ((jr q2).drop 0).1 (eR.refl ν) rfl (by simp)
  (fun i o h=>by
   rcases jI h with h|⟨h,h2⟩
   . simp at h
   . refine .inl ⟨h,fun hm=>?_⟩;simp only[cP]at hm;subst hm;simp[cr]at h2)
  (fun _ x hx=>by cases hx) (fun x hx=>by cases hx) ⟨rfl,rfl⟩
 have hy:∀a,(Lf.own j).R ν (HF X w0 H0 ν (bJ [(j,none)] oF) w) a->(Lf.ro rp κ xs).R ν (HF X w0 H0 ν (bJ [(j,none)] oF) w) a:=by
  rintro a ⟨b',c',n',r1,rfl⟩;rw[q1]at r1;cases r1;cases b with
  |none=>exact qB q2 e3 e0
  |some b=>
   have hno:¬Ow ν (bJ [(j,none)] oF) b:=by
    rintro⟨i,ob,r2,r3⟩;rcases jI r2 with h|⟨h,h2⟩
    . simp at h
    . have:=hS.gG i j ob _ b h (ho j _ hj) r3 (.inl (ep q1));subst this;simp[cr]at h2
   exact wS (px q2 fun q hq=>k9 (hS.fresh j _ b (ho j _ hj) (.inl (ep q1))) hno (vn q2 hq)) (e3.mono (g2 κ)) e0 rfl e1 e4
 obtain⟨k1,k2⟩:=g1.review (up:=yU j (.ro rp κ xs) (aQ L.bC) is) (fun i o h=>by
  obtain⟨l,r1,r2⟩:=Lw hb h;refine⟨.box l,_,r2,?_,rfl,?_⟩
  . have hne:i≠j:=by rintro rfl;rw[hj]at r1;cases r1
    show(bif Nat.beq i j then none else oF i)=_;have:Nat.beq i j=false:=by
     cases hb:Nat.beq i j with
     |false=>rfl
     |true=>exact absurd (dI hb) hne
    rw[this];exact ho i _ r1
  . rintro c n k ⟨vs,r3,r4⟩;exact⟨vs,r3,wO hy r4⟩)
 rw[<-oZ]at k1 k2;refine⟨ν,iz.refl,k1,fun κ=>by rw[k2];exact g2 κ,?_⟩;rw[k2];exact Mn hy (hs.mono (eR.refl ν) g2)
end
open Go Go.RowKit Go.X
variable [eW]
def wkL:Lf->Lf->Option Lf
 |.ro r κ xs,.ro _ κ' _=>some (.ro r (wk κ κ') xs)
 |.cp r κ xs,.ro _ κ' _=>some (.ro r (wk κ κ') xs)
 |.v (.slice none 0 0),.ro r κ _=>some (.ro r κ [])
 |.v x,_=>some (.v x)
 |.pd q,_=>some (.pd q)
 |_,_=>none
def pB:List Lf->List Lf->Option (List Lf)
 |[],[]=>some []
 |a::r,b::s=>match wkL a b with
  |some x=>match pB r s with
   |some y=>some (x::y)
   |none=>none
  |none=>none
 |_,_=>none
section
variable {ν ν':Nu} {H:Bool->Hp}
theorem Ux(hw:Le (H true) (H false)){x y l:Lf}{a:Value}(h:wkL x y=some l)(hr:x.R ν H a):l.R ν' H a:=by
 unfold wkL at h;split at h
 . cases h;exact Rs.mono hr (mQ hw (fun _=>Le.refl _) _ _)
 . cases h;exact Rs.mono hr.1 (mQ hw (fun _=>Le.refl _) _ _)
 . cases h;obtain⟨h1,_⟩:=hr;rw[h1];exact Rs.nil
 . cases h;exact hr
 . cases h;exact hr
 . cases h
theorem sP(hw:Le (H true) (H false)):∀{x y l:List Lf} {a:List Value},pB x y=some l->cS ν H x a->cS ν' H l a
 |[],[],l,a,h,hr=>by cases h;exact hr
 |x::r,y::s,l,a,h,hr=>by
  simp only[pB]at h;split at h
  . rename_i u hu;split at h
    . rename_i z hz;cases h;obtain⟨a,az,h1,h2,h3⟩:=hr;exact⟨a,az,h1,Ux hw hu h2,sP hw hz h3⟩
    . cases h
  . cases h
 |[],_::_,_,_,h,_=>by cases h
 |_::_,[],_,_,h,_=>by cases h
end
def bW:Bool->Bool->Bool
 |false,true=>false
 |_,_=>true
theorem va{H:Bool->Hp}(hw:Le (H true) (H false)):∀{κ κ':Bool},bW κ κ'=true->Le (H κ) (H κ')
 |true,true,_=>Le.refl _
 |true,false,_=>hw
 |false,false,_=>Le.refl _
 |false,true,h=>by cases h
def tB{α:Type}(rp:bQ α):Prop:=∀(H H':Hp) (vs:List Value) (x:α),rp.R H vs x->rp.R H' vs x
theorem bq{α:Type}{g:Option α}{a:α}(h:g=some a):g.bind some=some a:=by rw[h];rfl
section
variable {P:Program} {tb:List (dF P)} {L:SS} {o:Oper} {K:Ef->Option Sv->Prop} {β:Type} {res:β} {t u el:TypeId} {x y:Operand} {T E:dF P} {kk:IntKind}
theorem bF{α:Type}{rp:bQ α}[aO rp]{κ:Bool}{xs:List α}{i:Int}{f:α->Option β}(h:(idx xs i).bind f=some res)(nx:∀a,f a=some res->K .z (some (.pr κ (aO.cl rp κ a) 0)))
 (ho:o.op=.indexAddr t x y:=by rfl)(hx:bN L x=some (.s (.lf (.ro rp κ xs))):=by rfl)(hy:lv (bN L y)=some (.int kk i):=by rfl)(hT:cE tb t=some T:=by rfl)(hd:T.d=.slice el:=by rfl)(hE:cE tb el=some E:=by rfl)(hz:E.sz=rp.sz:=by rfl):bZ tb o L K:=by
 obtain⟨a,q1,q2⟩:=bind_some h;obtain⟨n,q3,q4⟩:=rj q1;refine bZ.of (LT.look fun ν H e w hv ht hO hS=>?_) (nx a q2);rw[ho];have h1:Rs rp (H κ) (ev e x) xs:=db hS hx;obtain⟨b,o',cap,vs,g1,g2,g3,g4⟩:=h1.get q4;exact aF.IY (gm hT hd) (iP hE hz) rfl g1 (eJ hS hy).1 q3 q4 rfl ⟨rfl,b,o'+n*rp.sz,vs,rfl,g3,aO.op g4⟩
theorem uC{α:Type}{rp:bQ α}{κ:Bool}{xs:List α}{j:Nat}{ν:Nu}{H:Bool->Hp}{w:World}(hO:∀i ob,aQ L.bC i=some ob->∃b c n k,ν i=some (b,c,n)/\dC w b k/\ob.R ν H c n k)(hj:aQ L.bC j=some (.row rp κ xs)):
 ∃b c cs sp,ν j=some (b,c,xs.length)/\dC w b (.cells ([]++(cs++sp)))/\bS rp (H κ) cs xs/\(cs++sp).length=c*rp.sz/\(rp.sz==0)=false:=by
 obtain⟨b,c,n,k,q1,q2,e1,e0,cs,sp,rfl,e3,e4⟩:=hO j _ hj;subst e1;exact⟨b,c,cs,sp,q1,q2,e3,e4,e0⟩
theorem BO{α:Type}{rp:bQ α}{xs:List α}{w:World}{b:Option Nat}{cs sp:List Value}{H:Hp}{n:Nat}{a:α}(hc:dC w b (.cells ([]++(cs++sp))))(hE:bS rp H cs xs)(hz:(rp.sz==0)=false)(hn:xs[n]?=some a):∃b',b=some b':=by
  have hpos : 0 < rp.sz := by have : ¬ rp.sz = 0 := by simpa using hz
                              omega
  cases b with
  |some b=>exact⟨b,rfl⟩
  |none=>
    have hc:[]++(cs++sp)=[]:=hc;have:=wT (pre:=[]) (sp:=sp) hE hn hpos;rw[hc]at this;simp at this
theorem cy{α:Type}{rp:bQ α}{κ:Bool}{xs:List α}{i:Int}{f:α->Option β}{j:Nat}(h:(idx xs i).bind f=some res)(nx:∀a,f a=some res->K .z (some (.pw j rp xs a i 0)))
 (ho:o.op=.indexAddr t x y:=by rfl)(hx:bN L x=some (.s (.lf (.own j))):=by rfl)(hj:aQ L.bC j=some (.row rp κ xs):=by rfl)(hy:lv (bN L y)=some (.int kk i):=by rfl)(hT:cE tb t=some T:=by rfl)(hd:T.d=.slice el:=by rfl)(hE:cE tb el=some E:=by rfl)(hz:E.sz=rp.sz:=by rfl):bZ tb o L K:=by
 obtain⟨a,q1,q2⟩:=bind_some h;obtain⟨n,q3,q4⟩:=rj q1;refine bZ.of (LT.look fun ν H e w hv ht hO hS=>?_) (nx a q2);rw[ho];obtain⟨b,c,cs,sp,g1,g4,g5,g6,g7⟩:=uC hO hj;obtain⟨b',c',n',m1,m2⟩:(Lf.own j).R ν H (ev e x):=db hS hx;rw[g1]at m1;cases m1;obtain⟨b,rfl⟩:=BO g4 g5 g7 q4;exact aF.ET (r:=rp) (q:=n*rp.sz+0) (gm hT hd) (iP hE hz) m2 rfl (eJ hS hy).1 q3 (dS.1 q4).1 (by omega) ⟨rfl,b,_,n,g1,q3,q4,rfl⟩
theorem dL{α:Type}{rp:bQ α}[aO rp]{κ:Bool}{xs:List α}{a:α}{i:Int}{j off:Nat}{s:S1}(nx:K .z (some (.s s)))
 (ho:o.op=.load t x:=by rfl)(hx:bN L x=some (.pw j rp xs a i off):=by rfl)(hj:aQ L.bC j=some (.row rp κ xs):=by rfl)(hT:cE tb t=some T:=by rfl)(hl:sW (iG T.d) T.sz (aO.cl rp κ a) off=some s:=by rfl):bZ tb o L K:=by
 refine bZ.of (LT.look fun ν H e w hv ht hO hS=>?_) nx;rw[ho];obtain⟨b,c,cs,sp,g1,g4,g5,g6,g7⟩:=uC hO hj;obtain⟨b',c',n',m1,m2,m3,m4⟩:=db hS hx;rw[g1]at m1;cases m1;obtain⟨vs,v1,v2,v3⟩:=Fb (pre:=[]) (sp:=sp) g5 m3;simp only[dM,eK]at v3;rcases uD hl (aO.op v2:cS ν H _ vs)with⟨h1,v,h2,h3⟩|⟨h1,us,h2,h3,h4⟩
 . have hp:=Bh (us:=[v]) (q:=off) v3 (by
    rw[ku];obtain⟨hlt,hv⟩:=dS.1 h2;rw[fD hlt,hv];rfl)
   exact aF.Je (gx hT) h1 m4 g4 hp ⟨rfl,h3⟩
 . exact aF.Dd (gx hT) h1 (fV hT) m4 g4 h2 (Bh v3 h3) ⟨rfl,h4⟩
theorem dW{α:Type}(κn:Bool){rp:bQ α}[aO rp]{κ:Bool}{xs xs0:List α}{a z:α}{i:Int}{f:List α->Option β}{j:Nat}{s:S1}(h:(dw xs i z).bind f=some res)(nx:∀Y,f Y=some res->K ⟨0,[(j,some (.row rp κn Y))],[]⟩ none)
 (ho:o.op=.store t x y:=by rfl)(hx:bN L x=some (.pw j rp xs0 a i 0):=by rfl)(hj:aQ L.bC j=some (.row rp κ xs):=by rfl)(hT:cE tb t=some T:=by rfl)(hz:T.sz=rp.sz:=by rfl)
 (hy:bN L y=some (.s s):=by rfl)(hw:pB (kP s) (aO.cl rp κn z)=some (aO.cl rp κn z):=by rfl)(hk:bW κ κn=true:=by rfl):bZ tb o L K:=by
 obtain⟨Y,q1,q2⟩:=bind_some h;obtain⟨n,q3,q4,q5⟩:=DC q1;refine bZ.of (LT.md hj fun ν H e w b c n0 k0 hv ht hO hS p1 p2 p3=>?_) (nx Y q2);rw[ho];obtain⟨e1,g7,cs,sp,rfl,g5,g6⟩:=p3;obtain⟨b',c',n',m1,m2,m3,m4⟩:=db hS hx;rw[p1]at m1;cases m1;obtain rfl:n'=n:=MV.1 (m2.symm.trans q3);obtain⟨vs,v1,v2⟩:=sx (db hS hy);have v3:=sP (ν':=ν) ht hw v2;refine aF.Sf (pre:=[]) (H:=H κn) (iP hT hz) m4 rfl v1 (aO.co v3) (jr p2) 0 rfl rfl (g5.mono (va ht hk)) q4 (by simp) q5 ?_;intro w' cs' hL' hst hE' hlen;refine⟨_,hL',fun H' hH=>⟨by rw[e1,q5,iS],g7,cs',sp,rfl,hE'.mono (hH κn),by rw[dd]at g6⊢;rw[hlen];exact g6⟩⟩
theorem stP{α:Type}{rp:bQ α}[aO rp]{κ:Bool}{xs xs0:List α}{a a1 z:α}{i:Int}{f:List α->Option β}{j off:Nat}{s:S1}(h:(dw xs i z).bind f=some res)(nx:∀Y,f Y=some res->K ⟨0,[(j,some (.row rp κ Y))],[]⟩ none)
    (ha:idx xs i=some a1)
    (ho:o.op=.store t x y:=by rfl)(hx:bN L x=some (.pw j rp xs0 a i off):=by rfl)(hj:aQ L.bC j=some (.row rp κ xs):=by rfl)(hT:cE tb t=some T:=by rfl)
    (hy:bN L y=some (.s s):=by rfl)(hs:Nat.beq (kP s).length T.sz=true:=by rfl)(hf:Nat.ble (off+T.sz) rp.sz=true:=by rfl)(hw:pB (uT (aO.cl rp κ a1) off (kP s)) (aO.cl rp κ z)=some (aO.cl rp κ z):=by rfl):bZ tb o L K:=by
  obtain⟨Y,q1,q2⟩:=bind_some h;obtain⟨n,q3,q4,q5⟩:=DC q1;obtain⟨n2,a2,a3⟩:=rj ha;obtain rfl:n2=n:=MV.1 (a2.symm.trans q3);refine bZ.of (LT.md hj fun ν H e w b c n0 k0 hv ht hO hS p1 p2 p3=>?_) (nx Y q2);rw[ho];obtain⟨e1,g7,cs,sp,rfl,g5,g6⟩:=p3;obtain⟨b',c',n',m1,m2,m3,m4⟩:=db hS hx;rw[p1]at m1;cases m1;obtain rfl:n'=n2:=MV.1 (m2.symm.trans q3);obtain⟨us,v1,v2⟩:=sx (db hS hy);have hsz:=dI hs;have hfit:=kx hf;obtain⟨vs,w1,w2,w3⟩:=Fb (pre:=[]) (sp:=sp) g5 a3;simp only[dM,eK,jf]at w3;have hul:=v2.length;have hcl:=g5.length;have hnl:n'<xs.length:=q4;have hmul:n'*rp.sz+rp.sz<=xs.length*rp.sz:=by
    have:=pN rp.sz (show n'+1<=xs.length from hnl);rwa[gL,yx]at this
  have hin:n'*rp.sz+off+us.length<=(cs++sp).length:=by
    rw[dd,hcl,hul,hsz];omega
  have v3:=sP (ν':=ν) ht hw (((aO.op w2:cS ν H _ vs)).put v2);have hput:∀(l:List Value) (p q:Nat) (us:List Value),q+us.length<=(l.drop p).length->putAt l (p+q) us=l.take p++putAt (l.drop p) q us:=by
    intro l p q us
    induction us generalizing l q with
    |nil=>intro _;simp[putAt]
    |cons u us ih=>
      intro hq;have hlp:p<=l.length:=by
        rcases cw l.length p with h|h
        . rw[Cf (B7 h)]at hq;simp at hq
        . exact h
      show putAt (l.set (p+q) u) (p+q+1) us=l.take p++putAt ((l.drop p).set q u) (q+1) us;rw[show p+q+1=p+(q+1) by omega,ih (l.set (p+q) u) (q+1) (by simp at hq⊢;omega)];congr 1
      . apply pL;intro m;simp only[vM];split
        . rw[vO (by omega)]
        . rfl
      . congr 1;rw[List.drop_set];split
        . omega
        . congr 1;omega
  refine aF.store (fV hT) m4 rfl v1 (by rw[hul,hsz]) v2.fb (jr p2) 0 rfl rfl (by simpa using hin) fun w' h1 h2=>?_;have key:putAt ([]++(cs++sp)) (n'*rp.sz+off) us=[]++(putAt cs (n'*rp.sz) (putAt vs off us)++sp):=by
    simp only[jf];have hd:n'*rp.sz<=(cs++sp).length:=by rw[dd,hcl];omega
    have hvs:(cs.drop (n'*rp.sz)).take rp.sz=vs:=by
      have:=w3;rw[w1,B8 (by rw[hcl];omega),qU (by rw[vQ,hcl];omega)]at this;exact this
    have hcs:cs=cs.take (n'*rp.sz)++(vs++cs.drop (n'*rp.sz+rp.sz)):=by
      conv=>lhs;rw[<-nj (n'*rp.sz) cs,<-nj rp.sz (cs.drop (n'*rp.sz)),hvs,qT]
    have pre_put:∀(us:List Value) (A B:List Value) (q:Nat),q+us.length<=B.length->putAt (A++B) (A.length+q) us=A++putAt B q us:=by
      intro us A B q hq;have:=hput (A++B) A.length q us (by rw[MW];exact hq);rw[this,List.take_left,MW]
    have post_put:∀(us:List Value) (A B:List Value) (q:Nat),q+us.length<=A.length->putAt (A++B) q us=putAt A q us++B:=by
      intro us
      induction us with
      |nil=>intro A B q _;rfl
      |cons u us ih=>
        intro A B q hq;simp only[cv]at hq;show putAt ((A++B).set q u) (q+1) us=putAt (A.set q u) (q+1) us++B;rw[List.set_append_left _ _ (by omega),ih _ _ _ (by simp;omega)]
    have plen:∀(us l:List Value) (q:Nat),(putAt l q us).length=l.length:=by
      intro us
      induction us with
      |nil=>intro l q;rfl
      |cons u us ih=>intro l q;show(putAt (l.set q u) (q+1) us).length=_;rw[ih];simp
    have hA:(cs.take (n'*rp.sz)).length=n'*rp.sz:=by rw[eQ,hcl];omega
    have l1:putAt (cs++sp) (n'*rp.sz+off) us=putAt cs (n'*rp.sz+off) us++sp:=post_put us cs sp _ (by rw[hcl,hul,hsz];omega);have l2:putAt cs (n'*rp.sz+off) us=cs.take (n'*rp.sz)++(putAt vs off us++cs.drop (n'*rp.sz+rp.sz)):=by
      conv=>lhs;rw[hcs]
      have:=pre_put us (cs.take (n'*rp.sz)) (vs++cs.drop (n'*rp.sz+rp.sz)) off (by rw[dd,w1,hul,hsz];omega);rw[hA]at this;rw[this,post_put us vs _ off (by rw[w1,hul,hsz];omega)]
    have l3:putAt cs (n'*rp.sz) (putAt vs off us)=cs.take (n'*rp.sz)++(putAt vs off us++cs.drop (n'*rp.sz+rp.sz)):=by
      conv=>lhs;rw[hcs]
      have:=pre_put (putAt vs off us) (cs.take (n'*rp.sz)) (vs++cs.drop (n'*rp.sz+rp.sz)) 0 (by rw[plen,dd];omega);rw[hA,pO]at this;rw[this,post_put _ vs _ 0 (by rw[plen];omega)];congr 2;have full:∀(us l:List Value),us.length=l.length->putAt l 0 us=us:=by
        intro us l hl;have gen:∀(us A B:List Value),B.length=us.length->putAt (A++B) A.length us=A++us:=by
          intro us
          induction us with
          | nil => intro A B hB; obtain rfl : B = [] := by simpa using hB
                   rfl
          |cons u us ih=>
            intro A B hB;cases B with
            |nil=>simp at hB
            |cons b B=>
              show putAt ((A++b::B).set A.length u) (A.length+1) us=_;rw[List.set_append_right _ _ (bK _),vN];have:=ih (A++[u]) B (by simpa using hB);simp only[dd,ku,je,MX]at this;exact this
        have:=gen us [] l hl.symm;simpa using this
      exact full _ _ (plen _ _ _)
    rw[l1,l2,l3]
  have h1:Go.X.Loc [some b'] [] w w' [some b'] [.cells (putAt ([]++(cs++sp)) (n'*rp.sz+off) us)]:=h1;rw[key]at h1;refine⟨_,h1,fun H' hH=>⟨by rw[e1,q5,iS],g7,_,sp,rfl,?_,?_⟩⟩
  . rw[q5];exact(g5.set (aO.co v3) hnl).mono (hH κ)
  . have plen:∀(us l:List Value) (q:Nat),(putAt l q us).length=l.length:=by
      intro us
      induction us with
      |nil=>intro l q;rfl
      |cons u us ih=>intro l q;show(putAt (l.set q u) (q+1) us).length=_;rw[ih];simp
    rw[dd,plen,<-dd];exact g6
theorem cl(md:Option Bool)(is:List Nat)(nn:Nat){ρ:Type}{g:Option ρ}{f:ρ->Option β}{fid:FuncId}{args:List Operand}{ats:Array TypeId}{ls az:List S1}{ib:List Ob}{out:ρ->List (Nat×Option Ob)}{rs:ρ->List S1}
 (h:g.bind f=some res)(c:∀r,g=some r->Cx P fid az ib (out r) (rs r))(nx:∀r,f r=some res->K ⟨nn,eZ md is L.nx (out r)++gW is,[]⟩ (some (oE ((rs r).map (kM md is L.nx)))))
 (ho:o.op=.call {callee:=.value (.func fid),args:=args.toArray,argTypes:=ats}:=by rfl)(ha:nP L args=some ls:=by rfl)(hl:kg md (aQ L.bC) is ls az=some az:=by rfl)(hb:iZ md (aQ L.bC) is is ib=some ib:=by rfl)(hn:fL is=true:=by rfl)
 (h1:∀r,nY md (is.length+nn) (out r)=true:=by intro r;rfl)(h2:∀r,(rs r).all (o5 md (is.length+nn))=true:=by intro r;rfl)(h3:∀r,fL ((out r).map (·.1))=true:=by intro r;rfl):bZ tb o L K:=by
 obtain⟨r,q1,q2⟩:=bind_some h;refine bZ.of ?_ (nx r q2);rw[ho];exact Io md is nn (c r q1) ha hl hb hn (h1 r) (h2 r) (h3 r)
inductive vq {α:Type}(L:SS)(rp:bQ α)(κs:Bool)(ys:List α):Lf->Prop
 |ro:vq L rp κs ys (.ro rp κs ys)
 |own {j:Nat} (h:aQ L.bC j=some (.row rp κs ys)):vq L rp κs ys (.own j)
theorem Rs.srcH{α:Type}{r:bQ α}{H:Hp}{w:World}{v:Value}{xs:List α}(hv:Le H (view [] w))(h:Rs r H v xs):∃cs,Src w v xs.length r.sz cs/\bS r H cs xs:=by
 rcases h with⟨h1,h2⟩|⟨b,o,cap,hv',hc,hxs⟩
 . subst h2;exact⟨[],⟨by simp,.inl ⟨h1,rfl⟩⟩,rfl⟩
 . obtain⟨cs,g1,g2⟩:=Rs.cells hxs;exact⟨cs,⟨g2.length,.inr ⟨b,o,cap,hv',fun j u hj=>yr (A:=[]) (yk hv (g1.get j hj))⟩⟩,g2⟩
theorem Cy{α:Type}{l:Lf}{rp:bQ α}{κs κn:Bool}{ys:List α}{ν:Nu}{H:Bool->Hp}{w:World}{v:Value}(hv:∀κ,Le (H κ) (view [] w))(ht:Le (H true) (H false))(hO:∀i ob,aQ L.bC i=some ob->∃b c n k,ν i=some (b,c,n)/\dC w b k/\ob.R ν H c n k)
 (hs:vq L rp κs ys l)(hk:bW κs κn=true\/tB rp)(hl:l.R ν H v):∃ds,Src w v ys.length rp.sz ds/\bS rp (H κn) ds ys:=by
 have fin:∀ds,bS rp (H κs) ds ys->bS rp (H κn) ds ys:=fun ds hE=>by
  rcases hk with hk|hk
  . exact hE.mono (va ht hk)
  . exact bS.EN hk hE
 cases hs with
 |ro=>
  obtain⟨ds,h1,h2⟩:=Rs.srcH (hv κs) hl;exact⟨ds,h1,fin ds h2⟩
 |own hj=>
  obtain⟨b,c,cs,sp,g1,g4,g5,g6,g7⟩:=uC hO hj;obtain⟨b',c',n',q1,rfl⟩:=hl;rw[g1]at q1;cases q1;exact⟨cs,Src.row g4 g5 g7 rfl rfl,fin cs g5⟩
theorem dQ{α:Type}(κn:Bool){rp:bQ α}{κ κs:Bool}{xs ys:List α}{bs:Nat}{f:List α->Option β}{a c:Operand}{j:Nat}{l:Lf}(h:(cM bs xs ys).bind f=some res)
 (nx:∀Y,f Y=some res->K ⟨1,[(L.nx,some (.row rp κn Y)),(j,none)],[]⟩ (some (.s (.lf (.own L.nx)))))
 (ho:o.op=.call {callee:=.builtin .append,args:=#[a,c],argTypes:=#[t,t]}:=by rfl) (ha:bN L a=some (.s (.lf (.own j))):=by rfl) (hj:aQ L.bC j=some (.row rp κ xs):=by rfl) (hc:bN L c=some (.s (.lf l)):=by rfl)
 (hs:vq L rp κs ys l:=by first|exact .ro|exact .own rfl) (hT:cE tb t=some T:=by rfl) (hd:T.d=.slice el:=by rfl) (hE:cE tb el=some E:=by rfl) (hz:E.sz=rp.sz:=by rfl) (hb:E.pY=bs:=by rfl) (hq:Nat.beq E.z.cells.size rp.sz=true:=by rfl)
 (hk:bW κ κn=true\/tB rp:=by first|exact .inl rfl|exact .inr fun _ _ _ _ h=>h) (hks:bW κs κn=true\/tB rp:=by first|exact .inl rfl|exact .inr fun _ _ _ _ h=>h):bZ tb o L K:=by
 obtain⟨Y,q1,q2⟩:=bind_some h;obtain⟨q3,q4,q5⟩:=zr q1;refine bZ.of (LT.rp hj fun ν H e w b cp n k0 hv ht hO hS p1 p2 p3=>?_) (nx Y q2);rw[ho];obtain⟨e1,g7,cs,sp,rfl,g5,g6⟩:=p3;obtain⟨b',c',n',m1,m2⟩:(Lf.own j).R ν H (ev e a):=db hS ha;rw[p1]at m1;cases m1;obtain⟨ds,d1,d2⟩:=Cy hv ht hO hs hks (db hS hc);subst hb;have g5':bS rp (H κn) cs xs:=by
  rcases hk with hk|hk
  . exact g5.mono (va ht hk)
  . exact bS.EN hk g5
 refine aF.Lk (H:=H κn) (gm hT hd) (iP hE hz) (dI hq) g7 m2 rfl (jr p2) (i:=0) rfl rfl g5' e1 g6 d1 d2 q3 q4 q5 ?_;intro ob' cap' sp' ds' w' hE' hcap hL' hst;exact⟨ob',cap',Y.length,_,hL',fun ν' H' hν hH=>⟨rfl,g7,ds',sp',rfl,hE'.mono (hH κn),hcap⟩,fun ν' H' hν hH hn=>⟨ob',cap',Y.length,hn,rfl⟩⟩
theorem gP{α:Type}(rp:bQ α)[aO rp]{z:α}{n:Int}{bs:Nat}{f:List α->Option β}{a c:Operand}{ka kc:IntKind}(h:(gg bs z n).bind f=some res)
 (nx:∀Y,f Y=some res->K ⟨1,[(L.nx,some (.row rp true Y))],[]⟩ (some (.s (.lf (.own L.nx)))))
 (ho:o.op=.makeSlice t a c:=by rfl)(ha:lv (bN L a)=some (.int ka n):=by rfl)(hc:lv (bN L c)=some (.int kc n):=by rfl)(hT:cE tb t=some T:=by rfl)(hd:T.d=.slice el:=by rfl)(hE:cE tb el=some E:=by rfl)(hz:E.sz=rp.sz:=by rfl)(hb:E.pY=bs:=by rfl)
 (h1:fb E.z.cells.toList=true:=by rfl)(hw:pB (E.z.cells.toList.map .v) (aO.cl rp true z)=some (aO.cl rp true z):=by rfl)(hr:(rp.sz==0)=false:=by rfl):bZ tb o L K:=by
 obtain⟨Y,q1,q2⟩:=bind_some h;obtain⟨m,q3,q4,q5,q6⟩:=UA q1;refine bZ.of (LT.nw fun ν H e w hv ht hO hS=>?_) (nx Y q2);rw[ho];subst hb;have hv':cS ν H (aO.cl rp true z) E.z.cells.toList:=sP (ν:=ν) ht hw (qu h1);refine aF.On (H:=H true) (zc:=E.z.cells.toList) (gm hT hd) (iP hE hz) (by simp) (aO.co hv') (eJ hS ha).1 (eJ hS hc).1 q3 q4 q5 q6 (nI (w:=w)) ?_;intro b w' cs hE' hcap hL' hst;exact⟨some b,m,Y.length,_,hL',fun ν' H' hν hH=>⟨rfl,hr,cs,[],rfl,hE'.mono (hH true),hcap⟩,fun ν' H' hν hH hn=>⟨some b,m,Y.length,hn,rfl⟩⟩
def zS(L:SS):Nat->List (Nat×Operand)->Option (List S1)
 |_,[]=>some []
 |i,(q,x)::r=>match Nat.beq q i with
  |true=>match bN L x with
   |some (.s s)=>match zS L (i+1) r with
    |some y=>some (s::y)
    |none=>none
   |_=>none
  |false=>none
def zQ:List S1->List (List Lf)->Option (List (List Lf))
 |[],[]=>some []
 |s::r,c::t=>match pB (kP s) c with
  |some x=>match zQ r t with
   |some y=>some (x::y)
   |none=>none
  |none=>none
 |_,_=>none
theorem L4{ν:Nu}{H:Bool->Hp}{e:Env}(hS:di ν H (aQ L.bP) e):∀{parts:List (Nat×Operand)} {i:Nat} {ss:List S1},zS L i parts=some ss->∃vs,(parts.map fun p=>(p.1,ev e p.2))=lY i vs/\dO ν H ss vs
 |[],i,_,h=>by cases h;exact⟨[],rfl,rfl⟩
 |(q,x)::r,i,_,h=>by
  simp only[zS]at h;split at h
  . rename_i hq;split at h
    . rename_i s hx;split at h
      . rename_i y hy;cases h;obtain⟨vs,g1,g2⟩:=L4 hS hy;have:=dI hq;subst this;exact⟨ev e x::vs,by simp[lY,g1],_,_,rfl,db hS hx,g2⟩
      . cases h
    . cases h
  . cases h
theorem Mb{α:Type}{rp:bQ α}[aO rp]{κ:Bool}{ν:Nu}{H:Bool->Hp}(hw:Le (H true) (H false)):∀{ss:List S1} {vs:List Value} {xs:List α},zQ ss (xs.map (aO.cl rp κ))=some (xs.map (aO.cl rp κ))->dO ν H ss vs->∃css,rv rp.sz vs css/\bS rp (H κ) css.flatten xs/\vs.length=xs.length
 |[],vs,[],_,hr=>by rw[show vs=[] from hr];exact⟨[],trivial,rfl,rfl⟩
 |[],_,_::_,h,_=>by cases h
 |_::_,_,[],h,_=>by cases h
 |s::ss,_,x::xs,h,⟨v,vs,h1,h2,h3⟩=>by
  simp only[jN,zQ]at h;split at h
  . rename_i u hu;split at h
    . rename_i y hy;simp only[tm,MS]at h;obtain⟨hu',hy'⟩:=h;subst hu';subst hy';obtain⟨css,g1,g2,g3⟩:=Mb (rp:=rp) (κ:=κ) hw hy h3;obtain⟨cs,c1,c2⟩:=sx h2;have c3:rp.R (H κ) cs x:=aO.co (sP (ν':=ν) hw hu c2);exact⟨cs::css,by rw[h1];exact⟨c1,rp.len _ _ _ c3,g1⟩,⟨cs,css.flatten,rfl,c3,g2⟩,by rw[h1];simp[g3]⟩
    . cases h
  . cases h
theorem de{α:Type}(rp:bQ α)[aO rp](κ:Bool)(xs:List α){n:Nat}{parts:List (Nat×Operand)}{ss:List S1}(nx:K ⟨1,[(L.nx,some (.row rp κ xs))],[]⟩ (some (.s (.lf (.own L.nx)))))
 (ho:o.op=.buildSlice t n parts.toArray:=by rfl)(hp:zS L 0 parts=some ss:=by rfl)(hw:zQ ss (xs.map (aO.cl rp κ))=some (xs.map (aO.cl rp κ)):=by rfl)(hl:xs.length=n:=by rfl)(hT:cE tb t=some T:=by rfl)(hd:T.d=.slice el:=by rfl)(hE:cE tb el=some E:=by rfl)(hz:E.sz=rp.sz:=by rfl)
 (h0:Nat.blt 0 (n*rp.sz)=true:=by rfl)(h1:Nat.ble (n*rp.sz) 16777216=true:=by rfl)(hr:(rp.sz==0)=false:=by rfl):bZ tb o L K:=by
 refine bZ.of (LT.nw fun ν H e w hv ht hO hS=>?_) nx;rw[ho];obtain⟨vs,v1,v2⟩:=L4 hS hp;obtain⟨css,c1,c2,c3⟩:=Mb (rp:=rp) (κ:=κ) ht hw v2;refine aF.T2 (H:=H κ) (gm hT hd) (iP hE hz) (kx h1) v1 (by rw[c3,hl]) c1 (by simpa using h0) c2 hl (nI (w:=w)) ?_;intro b w' hcap hL' hst;subst hl;exact⟨some b,xs.length,xs.length,_,hL',fun ν' H' hν hH=>⟨rfl,hr,_,[],rfl,c2.mono (hH κ),hcap⟩,fun ν' H' hν hH hn=>⟨some b,xs.length,xs.length,hn,rfl⟩⟩
theorem ji{α:Type}(rp:bQ α)(nx:K ⟨1,[(L.nx,some (.row rp true []))],[]⟩ (some (.s (.lf (.own L.nx)))))
 (ho:o.op=.buildSlice t 0 #[]:=by rfl) (hT:cE tb t=some T:=by rfl) (hd:T.d=.slice el:=by rfl) (hE:cE tb el=some E:=by rfl) (hz:E.sz=rp.sz:=by rfl) (hr:(rp.sz==0)=false:=by rfl):bZ tb o L K:=by
 refine bZ.of (LT.nw fun ν H e w hv ht hO hS=>?_) nx;rw[ho];refine aF.Og (gm hT hd) (iP hE hz) (nI (w:=w)) ?_;intro b w' hL' hst;exact⟨some b,0,0,_,hL',fun ν' H' hν hH=>⟨rfl,hr,[],[],rfl,bS.nil,by simp⟩,fun ν' H' hν hH hn=>⟨some b,0,0,hn,rfl⟩⟩
def vd(L:SS)(d:Int):Option Operand->Option Int
 |none=>some d
 |some x=>match lv (bN L x)with
  |some (.int _ i)=>some i
  |_=>none
theorem zP{ν:Nu}{H:Bool->Hp}{e:Env}(hS:di ν H (aQ L.bP) e){x:Option Operand}{d i:Int}(h:vd L d x=some i):(x=none/\i=d)\/∃k y,x=some y/\ev e y=.int k i:=by
 cases x with
 |none=>cases h;exact .inl ⟨rfl,rfl⟩
 |some x=>
  simp only[vd]at h;split at h
  . rename_i k i' hx;cases h;exact .inr ⟨k,x,rfl,(eJ hS hx).1⟩
  . cases h
theorem Bw{α:Type}{rp:bQ α}{κ:Bool}{xs:List α}{l h':Int}{f:List α->Option β}{lo hi:Option Operand}(h:(cut xs l h').bind f=some res)(nx:∀Y,f Y=some res->K .z (some (.s (.lf (.ro rp κ Y)))))
 (ho:o.op=.slice t x lo hi none:=by rfl)(hx:bN L x=some (.s (.lf (.ro rp κ xs))):=by rfl)(hlo:vd L 0 lo=some l:=by rfl)(hhi:vd L (xs.length:Int) hi=some h':=by rfl)(hT:cE tb t=some T:=by rfl)(hd:T.d=.slice el:=by rfl)(hE:cE tb el=some E:=by rfl)(hz:E.sz=rp.sz:=by rfl):bZ tb o L K:=by
 obtain⟨Y,q1,q2⟩:=bind_some h;obtain⟨m,n,q3,q4,q5,q6,q7⟩:=LD q1;refine bZ.of (LT.look fun ν H e w hv ht hO hS=>?_) (nx Y q2);rw[ho];have hr:Rs rp (H κ) (ev e x) xs:=db hS hx;refine aF.QP (l:=m) (h':=n) (gm hT hd) (iP hE hz) rfl hr ?_ ?_ q5 q6 q7 fun v' hv=>⟨rfl,hv⟩
 . rcases zP hS hlo with⟨h1,h2⟩|⟨kk,y,h1,h2⟩
   . exact .inl ⟨h1,by omega⟩
   . exact .inr ⟨kk,y,h1,by rw[h2,q3]⟩
 . rcases zP hS hhi with⟨h1,h2⟩|⟨kk,y,h1,h2⟩
   . exact .inl ⟨h1,by omega⟩
   . exact .inr ⟨kk,y,h1,by rw[h2,q4]⟩
theorem EP{α:Type}{rp:bQ α}{κ:Bool}{xs:List α}{h':Int}{f:List α->Option β}{hi:Option Operand}{j:Nat}(h:(cut xs 0 h').bind f=some res)(nx:∀Y,f Y=some res->K ⟨1,[(L.nx,some (.row rp κ Y)),(j,none)],[]⟩ (some (.s (.lf (.own L.nx)))))
 (ho:o.op=.slice t x none hi none:=by rfl)(hx:bN L x=some (.s (.lf (.own j))):=by rfl)(hj:aQ L.bC j=some (.row rp κ xs):=by rfl)(hhi:vd L (xs.length:Int) hi=some h':=by rfl)(hT:cE tb t=some T:=by rfl)(hd:T.d=.slice el:=by rfl)(hE:cE tb el=some E:=by rfl)(hz:E.sz=rp.sz:=by rfl):bZ tb o L K:=by
 obtain⟨Y,q1,q2⟩:=bind_some h;obtain⟨m,n,q3,q4,q5,q6,q7⟩:=LD q1;refine bZ.of (LT.rp hj fun ν H e w b cp n0 k0 hv ht hO hS p1 p2 p3=>?_) (nx Y q2);rw[ho];obtain⟨e1,g7,cs,sp,rfl,g5,g6⟩:=p3;obtain⟨b',c',n',m1,m2⟩:(Lf.own j).R ν H (ev e x):=db hS hx;rw[p1]at m1;cases m1;refine aF.Rk (pre:=[]) (r:=rp) (o:=0) (h':=n) (gm hT hd) (iP hE hz) g7 m2 p2 g5 e1 g6 ?_ q6 q3 q7 ?_
 . rcases zP hS hhi with⟨h1,h2⟩|⟨kk,y,h1,h2⟩
   . exact .inl ⟨h1,by omega⟩
   . exact .inr ⟨kk,y,h1,by rw[h2,q4]⟩
 intro cs' sp' hcs hE';refine⟨b,cp,Y.length,_,jr p2,fun ν' H' hν hH=>⟨rfl,g7,cs',sp',by rw[hcs],hE'.mono (hH κ),by rw[hcs];exact g6⟩,fun ν' H' hν hH hn=>⟨b,cp,Y.length,hn,rfl⟩⟩
variable {a b:Operand} {ki kj:IntKind} {p q:Int}
theorem qy{v:Value}(nx:K .z (eE v))(h1:one v=true)(h:∀(e:Env) (w:World),(∀x u,lv (bN L x)=some u->ev e x=u)->aF P o.op o.type (ev e) w fun v' w'=>w'=w/\v'=v):bZ tb o L K:=
 bZ.of (sv:=some (.s (.lf (.v v)))) (LT.look fun ν H e w _ _ _ hS=>(h e w fun x u hx=>(eJ hS hx).1).mono fun v' w' ⟨g1,g2⟩=>⟨g1,g2,h1⟩) nx
theorem quB{f:Int->Option β}(h:(sdiv ki p q).bind f=some res)(nx:∀z,f z=some res->K .z (eE (.int ki z)))
 (ho:o.op=.binOp .quo t a b u:=by rfl)(ha:lv (bN L a)=some (.int ki p):=by rfl)(hb:lv (bN L b)=some (.int ki q):=by rfl):bZ tb o L K:=by
 obtain⟨z,q1,q2⟩:=bind_some h;obtain⟨q3,q4⟩:=RV q1;exact qy (nx z q2) rfl fun e w f=>by rw[ho];exact aF.quoI (f _ _ ha) (f _ _ hb) q3 q4 ⟨rfl,rfl⟩
theorem u4(nx:K .z (eE (.int ki (ki.wrap (p.tdiv q)))))
 (ho:o.op=.binOp .quo t a b u:=by rfl)(ha:lv (bN L a)=some (.int ki p):=by rfl)(hb:lv (bN L b)=some (.int ki q):=by rfl)(h0:¬q=0:=by decide):bZ tb o L K:=
 qy nx rfl fun e w f=>by rw[ho];exact aF.quoI (f _ _ ha) (f _ _ hb) h0 rfl ⟨rfl,rfl⟩
theorem reB{f:Int->Option β}(h:(srem p q).bind f=some res)(nx:∀z,f z=some res->K .z (eE (.int ki (p.tmod q))))
 (ho:o.op=.binOp .rem t a b u:=by rfl)(ha:lv (bN L a)=some (.int ki p):=by rfl)(hb:lv (bN L b)=some (.int ki q):=by rfl):bZ tb o L K:=by
 obtain⟨z,q1,q2⟩:=bind_some h;obtain⟨q3,q4⟩:=Tp q1;exact qy (nx z q2) rfl fun e w f=>by rw[ho];exact aF.remI (f _ _ ha) (f _ _ hb) q3 ⟨rfl,rfl⟩
theorem ue(nx:K .z (eE (.int ki (p.tmod q))))
 (ho:o.op=.binOp .rem t a b u:=by rfl)(ha:lv (bN L a)=some (.int ki p):=by rfl)(hb:lv (bN L b)=some (.int ki q):=by rfl)(h0:¬q=0:=by decide):bZ tb o L K:=
 qy nx rfl fun e w f=>by rw[ho];exact aF.remI (f _ _ ha) (f _ _ hb) h0 ⟨rfl,rfl⟩
theorem slL(nx:K .z (eE (.int ki (iW ki p q))))
 (ho:o.op=.binOp .shl t a b u:=by rfl)(ha:lv (bN L a)=some (.int ki p):=by rfl)(hb:lv (bN L b)=some (.int kj q):=by rfl)(h0:¬q<0:=by decide):bZ tb o L K:=
 qy nx rfl fun e w f=>by rw[ho];exact aF.ishl (f _ _ ha) (f _ _ hb) h0 ⟨rfl,rfl⟩
theorem mS(nx:K .z (eE (.int ki (fq ki p q))))
 (ho:o.op=.binOp .shr t a b u:=by rfl)(ha:lv (bN L a)=some (.int ki p):=by rfl)(hb:lv (bN L b)=some (.int kj q):=by rfl)(h0:¬q<0:=by decide):bZ tb o L K:=
 qy nx rfl fun e w f=>by rw[ho];exact aF.ishr (f _ _ ha) (f _ _ hb) h0 ⟨rfl,rfl⟩
theorem slB{f:Unit->Option β}(h:(lC (¬q<0)).bind f=some res)(nx:∀z,f z=some res->K .z (eE (.int ki (iW ki p q))))
 (ho:o.op=.binOp .shl t a b u:=by rfl)(ha:lv (bN L a)=some (.int ki p):=by rfl)(hb:lv (bN L b)=some (.int kj q):=by rfl):bZ tb o L K:=by
 obtain⟨z,q1,q2⟩:=bind_some h;exact slL (nx z q2) ho ha hb (Ad q1)
theorem srB{f:Unit->Option β}(h:(lC (¬q<0)).bind f=some res)(nx:∀z,f z=some res->K .z (eE (.int ki (fq ki p q))))
 (ho:o.op=.binOp .shr t a b u:=by rfl)(ha:lv (bN L a)=some (.int ki p):=by rfl)(hb:lv (bN L b)=some (.int kj q):=by rfl):bZ tb o L K:=by
 obtain⟨z,q1,q2⟩:=bind_some h;exact mS (nx z q2) ho ha hb (Ad q1)
theorem sdB{f:Unit->Option β}{x y:List UInt8}(h:(lC ((x.length:Int)+y.length<=9223372036854775807)).bind f=some res)(nx:∀z,f z=some res->K .z (eE (.string (s8 (x++y)))))
 (ho:o.op=.binOp .add t a b u:=by rfl)(ha:lv (bN L a)=some (.string (s8 x)):=by rfl)(hb:lv (bN L b)=some (.string (s8 y)):=by rfl):bZ tb o L K:=by
 obtain⟨z,q1,q2⟩:=bind_some h;exact qy (nx z q2) rfl fun e w f=>by rw[ho];exact aF.sAdd (f _ _ ha) (f _ _ hb) (Ad q1) ⟨rfl,rfl⟩
theorem ixS{f:UInt8->Option β}{xs:List UInt8}(h:(idx xs q).bind f=some res)(nx:∀z,f z=some res->K .z (eE (.int .u8 (z.toNat:Int))))
 (ho:o.op=.index t a b:=by rfl)(ha:lv (bN L a)=some (.string (s8 xs)):=by rfl)(hb:lv (bN L b)=some (.int kj q):=by rfl)(hT:cE tb t=some T:=by rfl)(hd:T.d=.string:=by rfl):bZ tb o L K:=by
 obtain⟨z,q1,q2⟩:=bind_some h;obtain⟨n,q3,q4⟩:=rj q1;exact qy (nx z q2) rfl fun e w f=>by rw[ho];exact aF.Tw (gm hT hd) (f _ _ ha) (f _ _ hb) q3 q4 ⟨rfl,rfl⟩
def H6{α:Type}(xs:List α):Pd:=⟨fun _ a=>∃b,a=.bool b/\(b=true->xs=[]),fun _ _ _ _ h=>h,fun _ _ ⟨b,h,_⟩=>by rw[h];rfl⟩
theorem vA{α:Type}{rp:bQ α}{κ:Bool}{xs:List α}(nx:K .z (some (.s (.lf (.pd (H6 xs))))))
 (ho:o.op=.binOp .eql t a b u:=by rfl)(ha:bN L a=some (.s (.lf (.ro rp κ xs))):=by rfl)(hb:lv (bN L b)=some (.slice none 0 0):=by rfl)(hT:cE tb t=some T:=by rfl)(hd:T.d=.slice el:=by rfl):bZ tb o L K:=by
 refine bZ.of (LT.look fun ν H e w hv ht hO hS=>?_) nx;rw[ho];have hr:Rs rp (H κ) (ev e a) xs:=db hS ha;refine aF.NF (gm hT hd) rfl (Sl.isSlice hr) (eJ hS hb).1 ?_;exact⟨rfl,_,rfl,fun hi=>(Sl.PR hr hi).1⟩
theorem cn{α:Type}{F:Fx}{k:List It}{xs:List α}{c:Operand}{ca cb:Code}(ht:xs=[]->Gs tb F (.code ca::k) (L.kn c true))(hf:Gs tb F (.code cb::k) (L.kn c false))(hc:bN L c=some (.s (.lf (.pd (H6 xs)))):=by rfl):ju tb F (.code (.cond c ca cb)::k) L:=by
 refine⟨fun e w hs=>?_⟩;have hs':=hs;obtain⟨ν,g1,g2,g3,g4,g5⟩:=hs';obtain⟨bb,q1,q2⟩:∃b,ev e c=.bool b/\(b=true->xs=[]):=db g5 hc;have kn:St F (L.kn c bb) e w:=by
  cases c with
  |tmp t=>
   refine⟨ν,g1,g2,g3,g4,fun t' sv ht'=>?_⟩;have ht':(bif Nat.beq t' t then eE (.bool bb)else aQ L.bP t')=some sv:=ht';cases hb:Nat.beq t' t with
   |false=>rw[hb]at ht';exact g5 t' sv ht'
   |true=>
    rw[hb]at ht';cases ht';have:=dI hb;subst this;exact⟨q1,rfl⟩
  |_=>exact hs
 cases bb with
 |true=>exact cx.QF q1 rfl ((Gs.ok (ht (q2 rfl))).ok e w kn)
 |false=>exact cx.Ij q1 rfl ((Gs.ok hf).ok e w kn)
end
open Go Go.RowKit Go.X
variable [eW]
theorem IN{H:Hp}{w:World}(hv:Le H (view [] w)):H=vw (fun b=>H b≠none) w:=by
 funext b;cases hb:H b with
 |none=>
  cases hw:vw (fun b=>H b≠none) w b with
  |none=>rfl
  |some o=>exact absurd hb (Ba hw).1
 |some o=>exact(FY (by rw[hb];simp) (zD (hv b o hb))).symm
section
variable {P:Program} {tb:List (dF P)} {L:SS} {o:Oper} {K:Ef->Option Sv->Prop} {β:Type} {res:β} {t u el:TypeId} {x y a b c d:Operand} {T E:dF P} {kk:IntKind}
theorem clR{α:Type}{rp:bQ α}{κ:Bool}{xs:List α}{k1 k2:IntKind}{y':Operand}(nx:K .z (some (.s (.lf (.cp rp κ xs)))))
 (ho:o.op=.slice t x none (some y) (some y'):=by rfl)(hx:bN L x=some (.s (.lf (.ro rp κ xs))):=by rfl)(hy:lv (bN L y)=some (.int k1 (xs.length:Int)):=by rfl)(hy':lv (bN L y')=some (.int k2 (xs.length:Int)):=by rfl)(hT:cE tb t=some T:=by rfl)(hd:T.d=.slice el:=by rfl)(hE:cE tb el=some E:=by rfl)(hz:E.sz=rp.sz:=by rfl):bZ tb o L K:=by
 refine bZ.of (LT.look fun ν H e w hv ht hO hS=>?_) nx;rw[ho];have hr:Rs rp (H κ) (ev e x) xs:=db hS hx;exact aF.QW (n:=xs.length) (gm hT hd) (iP hE hz) rfl hr (eJ hS hy).1 (eJ hS hy').1 rfl rfl fun v' h1 h2=>⟨rfl,h1,h2⟩
theorem apC{α:Type}(κn:Bool){rp:bQ α}{κ κs:Bool}{xs ys:List α}{bs:Nat}{f:List α->Option β}{l:Lf}(h:(cM bs xs ys).bind f=some res)
 (nx:∀Y,f Y=some res->K ⟨1,[(L.nx,some (.row rp κn Y))],[]⟩ (some (.s (.lf (.own L.nx)))))
 (ho:o.op=.call {callee:=.builtin .append,args:=#[a,c],argTypes:=#[t,t]}:=by rfl) (ha:bN L a=some (.s (.lf (.cp rp κ xs))):=by rfl) (hc:bN L c=some (.s (.lf l)):=by rfl)
 (hs:vq L rp κs ys l:=by first|exact .ro|exact .own rfl) (hp:Nat.blt 0 ys.length=true:=by rfl) (hT:cE tb t=some T:=by rfl) (hd:T.d=.slice el:=by rfl) (hE:cE tb el=some E:=by rfl) (hz:E.sz=rp.sz:=by rfl) (hb:E.pY=bs:=by rfl) (hq:Nat.beq E.z.cells.size rp.sz=true:=by rfl) (hr:(rp.sz==0)=false:=by rfl)
 (hk:bW κ κn=true:=by rfl) (hks:bW κs κn=true\/tB rp:=by first|exact .inl rfl|exact .inr fun _ _ _ _ h=>h):bZ tb o L K:=by
 obtain⟨Y,q1,q2⟩:=bind_some h;obtain⟨q3,q4,q5⟩:=zr q1;refine bZ.of (LT.nw fun ν H e w hv ht hO hS=>?_) (nx Y q2);rw[ho];obtain⟨ds,d1,d2⟩:=Cy (κn:=κn) hv ht hO hs hks (db hS hc);obtain⟨hR,hcl⟩:Rs rp (H κ) (ev e a) xs/\vY (ev e a):=db hS ha;have hR:=Rs.mono hR (va ht hk);subst hb;have e1:=IN (hv κn);rw[e1]at hR d2;refine aF.Hb (gm hT hd) (iP hE hz) (dI hq) hr rfl rfl hR hcl d1 d2 (by simpa using hp) q3 q4 q5 (nI (w:=w)) fun b cap sp cs w' h1 h2 h3 h4=>?_;rw[<-e1]at h1;exact⟨some b,cap,Y.length,_,h3,fun ν' H' hν hH=>⟨rfl,hr,cs,sp,rfl,h1.mono (hH κn),h2⟩,fun ν' H' hν hH hn=>⟨some b,cap,Y.length,hn,rfl⟩⟩
theorem cutG{α:Type}{rp:bQ α}{κ:Bool}{xs:List α}{lo h':Int}{f:Unit->Option β}{sz j:Nat}{hi:Option Operand}(h:(nt xs lo h').bind f=some res)(nx:∀u,f u=some res->K .z (some (.s (.lf (.sg j sz lo h')))))
 (ho:o.op=.slice t x (some y) hi none:=by rfl)(hx:bN L x=some (.s (.lf (.own j))):=by rfl)(hj:aQ L.bC j=some (.row rp κ xs):=by rfl)(hlo:lv (bN L y)=some (.int kk lo):=by rfl)(hhi:vd L (xs.length:Int) hi=some h':=by rfl)(hT:cE tb t=some T:=by rfl)(hd:T.d=.slice el:=by rfl)(hE:cE tb el=some E:=by rfl)(hz:E.sz=rp.sz:=by rfl)(hs:rp.sz=sz:=by rfl):bZ tb o L K:=by
 obtain⟨u,q1,q2⟩:=bind_some h;obtain⟨m,n,q3,q4,q5,q6⟩:=LV q1;refine bZ.of (LT.look fun ν H e w hv ht hO hS=>?_) (nx u q2);rw[ho];obtain⟨b,c,cs,sp,g1,g4,g5,g6,g7⟩:=uC hO hj;obtain⟨b',c',n',m1,m2⟩:(Lf.own j).R ν H (ev e x):=db hS hx;rw[g1]at m1;cases m1;obtain⟨b,rfl⟩:=BO g4 g5 g7 (bV (B2 q5 q6));refine aF.PQ (r:=rp) (l:=m) (h':=n) (gm hT hd) (iP hE hz) g7 m2 rfl g5 g6 (.inr ⟨kk,y,rfl,by rw[(eJ hS hlo).1,q3]⟩) ?_ q5 q6 ?_
 . rcases zP hS hhi with⟨h1,h2⟩|⟨kk,y,h1,h2⟩
   . exact .inl ⟨h1,by omega⟩
   . exact .inr ⟨kk,y,h1,by rw[h2,q4]⟩
 . exact⟨rfl,b,_,m,n,_,g1,q3,q4,B7 q5,by rw[hs,eK]⟩
theorem ixG{α:Type}{rp:bQ α}{κ:Bool}{xs:List α}{i lo h':Int}{f:α->Option β}{sz j:Nat}(h:((lC (0<=i/\i<h'-lo)).bind fun _=>(idx xs (lo+i)).bind f)=some res)(nx:∀a,f a=some res->K .z (some (.pw j rp xs a (lo+i) 0)))
 (ho:o.op=.indexAddr t x y:=by rfl)(hx:bN L x=some (.s (.lf (.sg j sz lo h'))):=by rfl)(hj:aQ L.bC j=some (.row rp κ xs):=by rfl)(hy:lv (bN L y)=some (.int kk i):=by rfl)(hT:cE tb t=some T:=by rfl)(hd:T.d=.slice el:=by rfl)(hE:cE tb el=some E:=by rfl)(hz:E.sz=rp.sz:=by rfl)(hs:rp.sz=sz:=by rfl):bZ tb o L K:=by
 obtain⟨u,q0,q2⟩:=bind_some h;replace q0:=Ad q0;obtain⟨a,q1,q2⟩:=bind_some q2;obtain⟨n,q3,q4⟩:=rj q1;refine bZ.of (LT.look fun ν H e w hv ht hO hS=>?_) (nx a q2);rw[ho];obtain⟨b,c,cs,sp,g1,g4,g5,g6,g7⟩:=uC hO hj;obtain⟨b',c',m,k,cp,m1,m2,m3,m4,m5⟩:(Lf.sg j sz lo h').R ν H (ev e x):=db hS hx;rw[g1]at m1;cases m1;subst hs;refine aF.indexAddr (i:=i.toNat) (gm hT hd) (iP hE hz) m5 (by rw[(eJ hS hy).1];congr 1;omega) (by omega) rfl ⟨rfl,b',_,n,g1,q3,q4,?_⟩;rw[<-gL,show n=m+i.toNat by omega];rfl
theorem mkM{Q V:Type}(dk:DecidableEq Q)(kf:Q->Value)(vf:V->Value)(nx:K ⟨1,[(L.nx,some (.map dk kf vf []))],[]⟩ (some (.s (.lf (.mp L.nx)))))(ho:o.op=.makeMap t none:=by rfl):bZ tb o L K:=by
 refine bZ.of (LT.nw fun ν H e w hv ht hO hS=>?_) nx;rw[ho];exact aF.makeMap (kf:=kf) (vf:=vf) (nI (w:=w)) fun b w' h1 h2=>⟨some b,0,0,_,h1,fun _ _ _ _=>rfl,fun ν' H' hν hH hn=>⟨b,(0,0),hn,rfl⟩⟩
section
variable {Q V:Type} {dk:DecidableEq Q} {kf:Q->Value} {vf:V->Value} {m:List (Q×V)} {i:Nat} {kt et:TypeId}
theorem luM(z:V)(q:Q)(hk:kU P kt kf)(h1:∀v,one (vf v)=true)(nx:K .z (some (.fC [.lf (.v (vf (fx m q z).1)),.lf (.v (.bool (fx m q z).2))])))
 (ho:o.op=.lookup t a c true:=by rfl)(ha:bN L a=some (.s (.lf (.mp i))):=by rfl)(hi:aQ L.bC i=some (.map dk kf vf m):=by rfl)(hc:lv (bN L c)=some (kf q):=by rfl)(hT:cE tb t=some T:=by rfl)(hd:T.d=.map kt et:=by rfl)(hE:cE tb et=some E:=by rfl)(hz:E.z=vf z:=by rfl):bZ tb o L K:=by
 refine bZ.of (LT.look fun ν H e w hv ht hO hS=>?_) nx;rw[ho];obtain⟨b,c',g1,g2⟩:(Lf.mp i).R ν H (ev e a):=db hS ha;obtain⟨b',c'',n,k,q1,q2,q3⟩:=hO i _ hi;rw[g1]at q1;cases q1;have q3:k=j5 kf vf m:=q3;subst q3;exact aF.look (z:=z) hk (gm hT hd) (hz▸fV hE) g2 q2 (eJ hS hc).1 ⟨rfl,_,rfl,_,_,rfl,⟨rfl,h1 _⟩,_,_,rfl,⟨rfl,rfl⟩,rfl⟩
theorem puM(q:Q)(v:V)(hk:kU P kt kf)(nx:K ⟨0,[(i,some (.map dk kf vf (kp m q v)))],[]⟩ none)
 (ho:o.op=.mapUpdate t a c d:=by rfl)(ha:bN L a=some (.s (.lf (.mp i))):=by rfl)(hi:aQ L.bC i=some (.map dk kf vf m):=by rfl)(hc:lv (bN L c)=some (kf q):=by rfl)(hd':lv (bN L d)=some (vf v):=by rfl)(hT:cE tb t=some T:=by rfl)(hd:T.d=.map kt et:=by rfl):bZ tb o L K:=by
 refine bZ.of (LT.md hi fun ν H e w b c0 n k0 hv ht hO hS p1 p2 p3=>?_) nx;rw[ho];obtain⟨b',c',g1,g2⟩:(Lf.mp i).R ν H (ev e a):=db hS ha;rw[p1]at g1;cases g1;have p3:k0=j5 kf vf m:=p3;subst p3;exact aF.PS hk (gm hT hd) g2 (eJ hS hc).1 (eJ hS hd').1 (jr p2) 0 rfl rfl fun w' h1 h2=>⟨_,h1,fun _ _=>rfl⟩
end
def oC(κ:Bool)(l:List Lf):Pd:=⟨fun H a=>∃b o vs,a=.pointer (some ⟨b,o,none⟩)/\At (H κ) b o vs/\cS sh H l vs,fun H H' a hH ⟨b,o,vs,h1,h2,h3⟩=>⟨b,o,vs,h1,h2.mono (hH κ),h3.mono (eR.refl _) hH⟩,fun H a ⟨b,o,vs,h1,_⟩=>by rw[h1];rfl⟩
def iF(P:Program){α ρ:Type}(az:α->List S1)(rs:ρ->List S1)(f:α->Option ρ):Pd:=
  ⟨fun H v=>∃fid caps,v=.func (.func fid) #[] (List.toArray caps)/\Enters P fid/\∀(X:Nat->Prop) (w:World) (H':Bool->Hp) (ν:Nu) (x:α) (r:ρ) (l:List Value),(∀κ,Le (H κ) (H' κ))->(∀k,ν k=none)->cI X w H' ν (fun _=>none) w->f x=some r->dO ν (HF X w H' ν (fun _=>none) w) (az x) l->
      Calls P fid (l++caps).toArray w (fun e w'=>∃vs,e=.returned (js vs)/\xH X w H' ν 0 [] (rs r) vs w'),
   fun H H' v hH ⟨fid,caps,h1,h2,h3⟩=>⟨fid,caps,h1,h2,fun X w H2 ν x r l hle=>h3 X w H2 ν x r l fun κ=>Le.trans (hH κ) (hle κ)⟩,
   fun H v ⟨fid,caps,h1,_⟩=>by rw[h1];rfl⟩
theorem rq(t:Nat){κ:Bool}{l:List Lf}(ht:aQ L.bP t=some (.s (.lf (.pd (oC κ l)))):=by rfl):Vw L ⟨0,[],[(t,some (.pr κ l 0))]⟩:=by
 refine⟨fun X w0 H0 ν oF e w ho hn hS hs=>⟨ν,iz.refl,hS,fun _=>Le.refl _,fun t' sv h=>?_⟩⟩;have h:(bif Nat.beq t' t then some (Sv.pr κ l 0)else none)=some sv:=h;cases hb:Nat.beq t' t with
 |false=>rw[hb]at h;cases h
 |true=>
  rw[hb]at h;cases h;have:=dI hb;subst this;obtain⟨b,o,vs,h1,h2,h3⟩:=hs _ _ ht;exact⟨b,o,vs,h1,h2,h3.mono (fun i x h=>(by cases h)) fun _=>Le.refl _⟩
theorem rC(j t:Nat){l:List Lf}(hj:aQ L.bC j=some (.box l):=by rfl)(ht:aQ L.bP t=some (.s (.lf (.ptr j 0))):=by rfl):Vw L ⟨0,[(j,none)],[(t,some (.pr true l 0))]⟩:=by
 refine⟨fun X w0 H0 ν oF e w ho hn hS hs=>?_⟩;obtain⟨b,c,n,kk,q1,q2,vs,e2,e3⟩:=hS.cT j _ (ho j _ hj);obtain⟨b',c',r1,r2⟩:(Lf.ptr j 0).R ν (HF X w0 H0 ν oF w) (e t):=hs _ _ ht;rw[q1]at r1;cases r1;obtain⟨g1,g2⟩:=hS.go (T:=[j]) (O:=[some b']) (new:=[]) (oF':=bJ [(j,none)] oF) (ν':=ν) (fun b' hb=>by simp only[cP]at hb;exact⟨j,by simp,_,ho j _ hj,by rw[ep q1,hb]⟩) ((jr q2).drop 0).1 (eR.refl ν) rfl (by simp)
  (fun i o h=>by
   rcases jI h with h|⟨h,h2⟩
   . simp at h
   . refine .inl ⟨h,fun hm=>?_⟩;simp only[cP]at hm;subst hm;simp[cr]at h2)
  (fun _ x hx=>by cases hx) (fun x hx=>by cases hx) ⟨rfl,rfl⟩
 refine⟨ν,iz.refl,g1,g2,fun t' sv h=>?_⟩;have h:(bif Nat.beq t' t then some (Sv.pr true l 0)else none)=some sv:=h;cases hb:Nat.beq t' t with
 |false=>rw[hb]at h;cases h
 |true=>
  rw[hb]at h;cases h;have:=dI hb;subst this;have hno:¬Ow ν (bJ [(j,none)] oF) b':=by
   rintro⟨i,ob,r2,r3⟩;rcases jI r2 with h|⟨h,h2⟩
   . simp at h
   . have:=hS.gG i j ob _ b' h (ho j _ hj) r3 (.inl (ep q1));subst this;simp[cr]at h2
  subst e2;exact⟨b',0,vs,r2,px q2 fun q hq=>k9 (hS.fresh j _ b' (ho j _ hj) (.inl (ep q1))) hno (vn q2 hq),e3.mono (eR.refl ν) g2⟩
theorem dO.append{ν:Nu}{H:Bool->Hp}:∀{l l':List S1} {a a':List Value},dO ν H l a->dO ν H l' a'->dO ν H (l++l') (a++a')
 |[],_,_,_,h,h'=>by rw[show _=[] from h];exact h'
 |_::_,_,_,_,⟨a,az,h1,h2,h3⟩,h'=>by rw[h1];exact⟨a,az++_,rfl,h2,h3.append h'⟩
def rz(L:SS):List Operand->Option (List S1)
 |[]=>some []
 |x::r=>match bN L x with
  |some (.pr κ l 0)=>match l.all okV&&rz.isT κ with
   |true=>match rz L r with
    |some y=>some (.lf (.pd (oC false (l.map wf)))::y)
    |none=>none
   |false=>none
  |_=>none
where
 isT:Bool->Bool:=fun _=>true
 wf:Lf->Lf
  |.ro r _ xs=>.ro r false xs
  |l=>l
 okV:Lf->Bool
  |.v _=>true
  |.ro _ _ _=>true
  |.pd _=>true
  |_=>false
theorem Mm{ν ν':Nu}{H:Bool->Hp}:∀{l:List Lf} {vs:List Value},l.all rz.okV=true->cS ν H l vs->cS ν' H l vs
 |[],_,_,h=>h
 |x::r,_,hk,⟨a,az,h1,h2,h3⟩=>by
  simp only[Cd,fI]at hk;refine⟨a,az,h1,?_,Mm hk.2 h3⟩;cases x<;>first|exact h2|cases hk.1
theorem wf_R{ν:Nu}{H:Bool->Hp}(ht:Le (H true) (H false)):∀{l:List Lf} {vs:List Value},cS ν H l vs->cS ν H (l.map rz.wf) vs
 |[],_,h=>h
 |x::r,_,⟨a,az,h1,h2,h3⟩=>by
  refine⟨a,az,h1,?_,wf_R ht h3⟩;cases x with
  |ro rp κ xs=>cases κ with
   |true=>exact Rs.mono h2 ht
   |false=>exact h2
  |_=>exact h2
theorem Lv{ν:Nu}{H:Bool->Hp}{e:Env}(ht:Le (H true) (H false))(hS:di ν H (aQ L.bP) e):∀{xs:List Operand} {ss:List S1},rz L xs=some ss->dO sh H ss (xs.map (ev e))
 |[],_,h=>by cases h;rfl
 |x::r,_,h=>by
  simp only[rz]at h;split at h
  . rename_i κ l hx;split at h
    . rename_i hk;split at h
      . rename_i y hy;cases h;simp only[fI]at hk;obtain⟨b,o,vs,h1,h2,h3⟩:=db hS hx;refine⟨_,_,rfl,⟨b,o,vs,h1,?_,wf_R ht (Mm hk.1 h3)⟩,Lv ht hS hy⟩;cases κ with
        |true=>exact h2.mono ht
        |false=>exact h2
      . cases h
    . cases h
  . cases h
theorem mkF{α ρ:Type}(az:α->List S1)(rs:ρ->List S1)(f:α->Option ρ){fid:FuncId}{caps:List Operand}{cs:List S1}(c:∀x r,f x=some r->Cx P fid (az x++cs) [] [] (rs r))(he:Enters P fid)(nx:K .z (some (.s (.lf (.pd (iF P az rs f))))))
 (ho:o.op=.makeFunc (.func fid) #[] caps.toArray:=by rfl) (hc:rz L caps=some cs:=by rfl):bZ tb o L K:=by
 refine bZ.of (LT.look fun ν H e w hv ht hO hS=>?_) nx;rw[ho];refine aF.makeFunc rfl ⟨rfl,fid,caps.map (ev e),rfl,he,?_⟩;intro X w1 H' ν1 x r l hle hν hSt hf hl;have hcap:=Lv ht hS hc;have hin:∀κ,Le (H κ) (HF X w1 H' ν1 (fun _=>none) w1 κ):=fun κ b o hb=>by
  have h1:=hle κ b o hb;have h2:H' false b=some o:=by
   cases κ with
   |true=>exact hSt.h0 b o h1
   |false=>exact h1
  obtain⟨g1,g2,g3⟩:=hSt.mw b o h2;rw[nz g1 g3];exact h1
 have hno:aQ (eu 0 ([]:List Ob))=fun _=>none:=by funext t;rfl
 have:=(c x r hf).2 X w1 H' ν1 (l++caps.map (ev e)) (fun k _=>hν k) (by rw[hno];exact hSt) (by
  rw[hno];exact hl.append (hcap.mono (fun i x h=>(by cases h)) hin))
 exact this
theorem cvl{α ρ:Type}{az:α->List S1}{rs:ρ->List S1}{g:α->Option ρ}(x:α){f:ρ->Option β}{fo:Operand}{args:List Operand}{ats:Array TypeId}{ls:List S1}(h:(g x).bind f=some res)(nx:∀r,f r=some res->K .z (some (oE ((rs r).map (kM none [] L.nx)))))
 (ho:o.op=.call {callee:=.value fo,args:=args.toArray,argTypes:=ats}:=by rfl)(hf:bN L fo=some (.s (.lf (.pd (iF P az rs g)))):=by rfl)(ha:nP L args=some ls:=by rfl)(hl:kg none (aQ L.bC) [] ls (az x)=some (az x):=by rfl)(h2:∀r,(rs r).all (o5 none 0)=true:=by intro r;rfl):bZ tb o L K:=by
 obtain⟨r,q1,q2⟩:=bind_some h;refine bZ.of ⟨fun X w0 H0 ν oF e w ho' hν hS hs=>?_⟩ (nx r q2);rw[ho];obtain⟨fid,caps,e1,he,hcall⟩:=db hs hf;have hI:∀i∈([]:List Nat),∃ob,oF i=some ob:=fun i hi=>by cases hi
 have hb:iZ none oF [] [] []=some []:=rfl;have hin:=hS.AX (md:=none) (is:=[]) rfl hb;have e0:aQ (eu 0 ([]:List Ob))=fun _=>none:=by funext t;rfl
 rw[e0]at hin;have hargs:=wb (md:=none) (is:=[]) (νc:=dV ν []) (cF:=fun _=>none) hS hI (qx hS hI) (Fv ho' hl) (Ao hs ha);have hc:=hcall (Xc ν []) w _ (dV ν []) x r (args.map (ev e)) (fun κ=>oz (md:=none) hS hI (by cases κ<;>rfl)) (fun k=>rfl) hin q1 hargs;have hfe:ev e fo=.func (.func fid) (List.toArray []) caps.toArray:=e1;refine aF.He he hfe (by simp) hc ?_;rintro en w' ⟨vs,rfl,ν',hp,hE,hr⟩;refine⟨js vs,rfl,BI none [] 0 L.nx hS hI rfl rfl (h2 r) rfl hν (fun k hk=>absurd hk (MY k)) hE hr⟩
theorem vH{α ρ:Type}{az:α->List S1}{rs:ρ->List S1}{g:α->Option ρ}(x:α){f:ρ->Option β}{fo:Operand}{args:List Operand}{ats:Array TypeId}{ls:List S1}(h:(g x).bind f=some res)(nx:∀r,f r=some res->K .z (some (oE ((rs r).map (kM (some false) [] L.nx)))))
 (ho:o.op=.call {callee:=.value fo,args:=args.toArray,argTypes:=ats}:=by rfl)(hf:bN L fo=some (.s (.lf (.pd (iF P az rs g)))):=by rfl)(ha:nP L args=some ls:=by rfl)(hl:kg (some false) (aQ L.bC) [] ls (az x)=some (az x):=by rfl)(h2:∀r,(rs r).all (o5 (some false) 0)=true:=by intro r;rfl):bZ tb o L K:=by
 obtain⟨r,q1,q2⟩:=bind_some h;refine bZ.of ⟨fun X w0 H0 ν oF e w ho' hν hS hs=>?_⟩ (nx r q2);rw[ho];obtain⟨fid,caps,e1,he,hcall⟩:=db hs hf;have hI:∀i∈([]:List Nat),∃ob,oF i=some ob:=fun i hi=>by cases hi
 have hb:iZ (some false) oF [] [] []=some []:=rfl;have hin:=hS.AX (md:=some false) (is:=[]) rfl hb;have e0:aQ (eu 0 ([]:List Ob))=fun _=>none:=by funext t;rfl
 rw[e0]at hin;have hargs:=wb (md:=some false) (is:=[]) (νc:=dV ν []) (cF:=fun _=>none) hS hI (qx hS hI) (Fv ho' hl) (Ao hs ha);have hc:=hcall (Xc ν []) w _ (dV ν []) x r (args.map (ev e)) (fun κ=>oz (md:=some false) hS hI (by cases κ<;>rfl)) (fun k=>rfl) hin q1 hargs;have hfe:ev e fo=.func (.func fid) (List.toArray []) caps.toArray:=e1;refine aF.He he hfe (by simp) hc ?_;rintro en w' ⟨vs,rfl,ν',hp,hE,hr⟩;refine⟨js vs,rfl,BI (some false) [] 0 L.nx hS hI rfl rfl (h2 r) rfl hν (fun k hk=>absurd hk (MY k)) hE hr⟩
inductive pF (P:Program):List S1->List S1->Prop
 |n:pF P [] []
 |s {a:S1} {l l':List S1} (h:pF P l l'):pF P (a::l) (a::l')
 |f {α ρ:Type} (az:α->List S1) (rs:ρ->List S1) (f:α->Option ρ) {fid:FuncId} (c:∀x r,f x=some r->Cx P fid (az x) [] [] (rs r)) (he:Enters P fid) {l l':List S1} (h:pF P l l'):pF P (.lf (.v (.func (.func fid) #[] #[]))::l) (.lf (.pd (iF P az rs f))::l')
theorem pF.ok{ν:Nu}{H:Bool->Hp}:∀{l l':List S1} {v:List Value},pF P l l'->dO ν H l v->dO ν H l' v
  |_,_,_,.n,h=>h
  |_,_,_,.s k,⟨a,az,h1,h2,h3⟩=>⟨a,az,h1,h2,k.ok h3⟩
  |_,_,_,.f az rs g c he k,⟨a,l,h1,h2,h3⟩=>⟨a,l,h1,⟨_,[],h2.1,he,fun X w H' ν1 x r l2 hle hν hSt hf hl=>by
      have hno:aQ (eu 0 ([]:List Ob))=fun _=>none:=by funext t;rfl
      have:=(c x r hf).2 X w H' ν1 l2 (fun k _=>hν k) (by rw[hno];exact hSt) (by rw[hno];exact hl);rw[lK];exact this⟩,k.ok h3⟩
theorem clF(md:Option Bool)(is:List Nat)(nn:Nat){ρ:Type}{g:Option ρ}{f:ρ->Option β}{fid:FuncId}{args:List Operand}{ats:Array TypeId}{l0 ls az:List S1}{ib:List Ob}{out:ρ->List (Nat×Option Ob)}{rs:ρ->List S1}
 (h:g.bind f=some res)(c:∀r,g=some r->Cx P fid az ib (out r) (rs r))(hc:pF P l0 ls)(nx:∀r,f r=some res->K ⟨nn,eZ md is L.nx (out r)++gW is,[]⟩ (some (oE ((rs r).map (kM md is L.nx)))))
 (ho:o.op=.call {callee:=.value (.func fid),args:=args.toArray,argTypes:=ats}:=by rfl)(ha:nP L args=some l0:=by rfl)(hl:kg md (aQ L.bC) is ls az=some az:=by rfl)(hb:iZ md (aQ L.bC) is is ib=some ib:=by rfl)(hn:fL is=true:=by rfl)
 (h1:∀r,nY md (is.length+nn) (out r)=true:=by intro r;rfl)(h2:∀r,(rs r).all (o5 md (is.length+nn))=true:=by intro r;rfl)(h3:∀r,fL ((out r).map (·.1))=true:=by intro r;rfl):bZ tb o L K:=by
 obtain⟨r,q1,q2⟩:=bind_some h;refine bZ.of ?_ (nx r q2);rw[ho];exact Mh md is nn (c r q1) ha (fun _ _ _ h=>hc.ok h) hl hb hn (h1 r) (h2 r) (h3 r)
theorem Vw.comp{a b:Ef}(v:Vw L a)(v2:Vw (L.lG a) b):Vw L (a.comp b):=by
 refine⟨fun X w0 H0 ν oF e w ho hn hS hs=>?_⟩;obtain⟨ν1,g1,g2,g3,g4⟩:=v.ok X w0 H0 ν oF e w ho (fun k h1 h2=>hn k h1 (by show k<L.nx+(a.n+b.n);omega)) hS hs;have hle:=g1.le (fun k h1 h2=>hn k h1 (by show k<L.nx+(a.n+b.n);omega));obtain⟨ν2,q1,q2,q3,q4⟩:=v2.ok X w0 H0 ν1 (bJ a.up oF) e w (by rw[pD];exact Mp ho) (fun k h1 h2=>by
  have h1:L.nx+a.n<=k:=h1;have h2:k<L.nx+a.n+b.n:=h2;rw[g1 k (.inr h1)];exact hn k (by omega) (by show k<L.nx+(a.n+b.n);omega)) g2 (by rw[ry];exact(hs.mono hle g3).ap g4)
 rw[<-oZ]at q2 q3 q4;have hle2:eR ν1 ν2:=q1.le (fun k h1 h2=>by
  have h1:L.nx+a.n<=k:=h1;have h2:k<L.nx+a.n+b.n:=h2;rw[g1 k (.inr h1)];exact hn k (by omega) (by show k<L.nx+(a.n+b.n);omega))
 refine⟨ν2,fun k hk=>?_,q2,fun κ=>Le.trans (g3 κ) (q3 κ),?_⟩
 . have hk:k<L.nx\/L.nx+(a.n+b.n)<=k:=hk;rw[q1 k (by show k<L.nx+a.n\/L.nx+a.n+b.n<=k;omega),g1 k (by omega)]
 . have e1:aQ (a.comp b).sl=bJ b.sl (aQ a.sl):=by funext t;exact qK _ _ _
   rw[e1];exact(g4.mono hle2 q3).ap q4
theorem iA(tb:List (dF P)){f:FuncId}{fn:Func}{c:Code}{rl:List ResultVar}{n:Nat}{az rs:List S1}{ib:List Ob}{out:List (Nat×Option Ob)}{m:Nat}{a:Ef}(v:Vw ⟨m,eu 0 ib,o7 0 az⟩ a)(en:Enters P f)(hf:P.funcs[f]?=some fn)
 (h:∀X w H ν,Gs tb ⟨n,QR P rl X w H ν m out rs,X,w,H,m,ν⟩ [.code c] ((⟨m,eu 0 ib,o7 0 az⟩:SS).lG a))(hm:ib.length=m:=by rfl)(hb:fn.body=some c:=by rfl)(hn:fn.ntmps=n:=by rfl)(hr:fn.results=rl.toArray:=by rfl)(hl:Nat.ble az.length n=true:=by rfl):Cx P f az ib out rs:=by
 subst hm;refine⟨en,fun X w H ν l hν hS hl'=>?_⟩;refine Li hf hb hn hr (by rw[hl'.length];exact kx hl) ?_;have h0:St ⟨n,QR P rl X w H ν ib.length out rs,X,w,H,ib.length,ν⟩ ⟨ib.length,eu 0 ib,o7 0 az⟩ (kJ l) w:=⟨ν,hν,bK _,fun _ _=>rfl,hS,Bv 0 hl' (fun i v hi=>by rw[eK];simp[kJ,hi])⟩;refine((Gs.ok (h X w H ν)).ok _ _ (v.st h0)).mono ?_;rintro e w' ⟨vs,h1,h2⟩;exact⟨vs,h1,vs,rfl,h2⟩
theorem jC{α:Type}{rp:bQ α}{κ:Bool}{xs:List α}{i:Int}{f:α->Option β}{j:Nat}(h:(idx xs i).bind f=some res)(nx:∀a,idx xs i=some a->f a=some res->K .z (some (.pw j rp xs a i 0)))
 (ho:o.op=.indexAddr t x y:=by rfl)(hx:bN L x=some (.s (.lf (.own j))):=by rfl)(hj:aQ L.bC j=some (.row rp κ xs):=by rfl)(hy:lv (bN L y)=some (.int kk i):=by rfl)(hT:cE tb t=some T:=by rfl)(hd:T.d=.slice el:=by rfl)(hE:cE tb el=some E:=by rfl)(hz:E.sz=rp.sz:=by rfl):bZ tb o L K:=by
 obtain⟨a,q1,q2⟩:=bind_some h;obtain⟨n,q3,q4⟩:=rj q1;refine bZ.of (LT.look fun ν H e w hv ht hO hS=>?_) (nx a q1 q2);rw[ho];obtain⟨b,c,cs,sp,g1,g4,g5,g6,g7⟩:=uC hO hj;obtain⟨b',c',n',m1,m2⟩:(Lf.own j).R ν H (ev e x):=db hS hx;rw[g1]at m1;cases m1;obtain⟨b,rfl⟩:=BO g4 g5 g7 q4;exact aF.ET (r:=rp) (q:=n*rp.sz+0) (gm hT hd) (iP hE hz) m2 rfl (eJ hS hy).1 q3 (dS.1 q4).1 (by omega) ⟨rfl,b,_,n,g1,q3,q4,rfl⟩
end
open Go Go.RowKit Go.X
variable [eW]
theorem TH{P:Program}{f:FuncId}{az rs:List S1}(c:Cn P f az [] rs){W:World}{l:List Value}(h:dO sh (fun _=>HW W) az l)(hT:xi fun _=>HW W):
 Calls P f l.toArray W (fun e w'=>∃vs ν' H',e=.returned (js vs)/\Ext W w'/\dO ν' H' rs vs):=by
 have hno:aQ (eu 0 ([]:List Ob))=fun _=>none:=by funext t;rfl
 have h0:∀b o,HW W b=some o->b<W.heap.size/\W.heap[b]?=some o/\¬(fun _:Nat=>False) b:=fun b o hb=>by
  have h1:=(Ba hb).2;exact⟨kq h1,h1,fun h=>h⟩
 have hS:cI (fun _=>False) W (fun _=>HW W) sh (fun _=>none) W:=
  ⟨rfl,rfl,rfl,bK _,fun _ _ _=>rfl,Le.refl _,h0,hT,fun i ob hi=>by(cases hi),fun i ob b hi=>by(cases hi),fun i j oi oj b hi=>by(cases hi),fun i ob hi=>by(cases hi)⟩
 have hle:∀κ,Le (HW W) (HF (fun _=>False) W (fun _=>HW W) sh (fun _=>none) W κ):=fun κ b o hb=>by
  obtain⟨g1,g2,g3⟩:=h0 b o hb;rw[nz g1 g3];exact hb
 refine(c.2 (fun _=>False) W (fun _=>HW W) sh l (fun _ _=>rfl) (by rw[hno];exact hS) (by rw[hno];exact h.mono (fun i x hx=>by(cases hx)) hle)).mono ?_;rintro e w' ⟨vs,rfl,ν',_,hE,hr⟩;exact⟨vs,ν',_,rfl,⟨hE.os,hE.tape,hE.output,hE.size,fun k hk=>hE.keep k hk (fun h=>h)⟩,hr⟩
theorem NA{P:Program}{f:FuncId}{az:List S1}{b:Bool}(c:Cn P f az [] [sB b]){W:World}{l:List Value}(h:dO sh (fun _=>HW W) az l)(hT:xi fun _=>HW W):Calls P f l.toArray W (Ret W fun v _=>Value.bool b=v/\True):=by
 refine(TH c h hT).mono ?_;rintro e w' ⟨vs,ν',H',rfl,hE,a,az,rfl,⟨h1,_⟩,rfl⟩;exact⟨_,rfl,hE,h1.symm,trivial⟩
open Go Go.RowKit Go.X
variable [eW]
theorem NQ{P:Program}{f:FuncId}{az rs:List S1}(en:Enters P f)(h:∀(ν:Nu) (H:Bool->Hp) (w:World) (l:List Value),dO ν H az l->Calls P f l.toArray w (fun e w'=>∃vs,e=.returned (js vs)/\Ext w w'/\∀(ν':Nu) (H':Bool->Hp),dO ν' H' rs vs)):Cn P f az [] rs:=by
 have hno:aQ (eu 0 ([]:List Ob))=fun _=>none:=by funext t;rfl
 refine⟨en,fun X w H ν l hν hS hl=>(h _ _ w l hl).mono ?_⟩;rintro e w' ⟨vs,rfl,hE,hr⟩;rw[hno]at hS;refine⟨vs,rfl,ν,fun _ _=>rfl,?_,hr _ _⟩;rw[hno];exact⟨hE.os,hE.tape,hE.output,hE.size,fun k hk _=>hE.block k hk,hS.h0,hS.mw,hS.oB,fun i ob hi=>(by cases(show none=some ob from hi)),fun i ob b hi=>(by cases(show none=some ob from hi)),fun i j oi oj b hi=>(by cases(show none=some oi from hi)),fun i ob hi=>(by cases(show none=some ob from hi))⟩
theorem OV{P:Program}{f:FuncId}{az rs:List S1}(en:Enters P f)(h:∀(ν:Nu) (H:Bool->Hp) (w:World) (l:List Value),(∀κ,Le (H κ) (view [] w))->dO ν H az l->Calls P f l.toArray w (fun e w'=>∃vs,e=.returned (js vs)/\Ext w w'/\∀(ν':Nu) (H':Bool->Hp),dO ν' H' rs vs)):Cn P f az [] rs:=by
 have hno:aQ (eu 0 ([]:List Ob))=fun _=>none:=by funext t;rfl
 refine⟨en,fun X w H ν l hν hS hl=>(h _ _ w l (fun κ=>hS.view κ) hl).mono ?_⟩;rintro e w' ⟨vs,rfl,hE,hr⟩;rw[hno]at hS;refine⟨vs,rfl,ν,fun _ _=>rfl,?_,hr _ _⟩;rw[hno];exact⟨hE.os,hE.tape,hE.output,hE.size,fun k hk _=>hE.block k hk,hS.h0,hS.mw,hS.oB,fun i ob hi=>(by cases(show none=some ob from hi)),fun i ob b hi=>(by cases(show none=some ob from hi)),fun i j oi oj b hi=>(by cases(show none=some oi from hi)),fun i ob hi=>(by cases(show none=some ob from hi))⟩
theorem RP{P:Program}{f:FuncId}{az rs:List S1}(en:Enters P f)(h:∀(ν:Nu) (H:Bool->Hp) (w:World) (l:List Value),(∀g∈eW.l,∃o,w.heap[g]?=some o/\eW.p g o)->dO ν H az l->Calls P f l.toArray w (fun e w'=>∃vs,e=.returned (js vs)/\Ext w w'/\∀(ν':Nu) (H':Bool->Hp),dO ν' H' rs vs)):Cn P f az [] rs:=by
 have hno:aQ (eu 0 ([]:List Ob))=fun _=>none:=by funext t;rfl
 refine⟨en,fun X w H ν l hν hS hl=>(h _ _ w l (fun g hg=>?_) hl).mono ?_⟩
 . obtain⟨o,h1,h2⟩:=hS.tab g hg;exact⟨o,(hS.rd h1).1,h2⟩
 rintro e w' ⟨vs,rfl,hE,hr⟩;rw[hno]at hS;refine⟨vs,rfl,ν,fun _ _=>rfl,?_,hr _ _⟩;rw[hno];exact⟨hE.os,hE.tape,hE.output,hE.size,fun k hk _=>hE.block k hk,hS.h0,hS.mw,hS.oB,fun i ob hi=>(by cases(show none=some ob from hi)),fun i ob b hi=>(by cases(show none=some ob from hi)),fun i j oi oj b hi=>(by cases(show none=some oi from hi)),fun i ob hi=>(by cases(show none=some ob from hi))⟩
open Go Go.RowKit Go.X
variable [eW]
structure DF {α β:Type}(D:AY α)(f off:Nat)(rf:bQ β)(get:α->List β)(set:α->List β->α):Prop where
 lt:f<D.nf
 lo:off<D.r.sz
 at':∀vs bs cc x,D.R vs bs cc x->∃v b k,vs[off]?=some v/\bs[f]?=some b/\cc[f]?=some k/\DS rf v b k (get x)
 st:∀vs bs cc x v b k ys,D.R vs bs cc x->DS rf v b k ys->D.R (vs.set off v) (bs.set f b) (cc.set f k) (set x ys)
 gs:∀x,set x (get x)=x
 sz:(rf.sz==0)=false
 fr:tB rf
open Go Go.RowKit Go.X
variable [eW]
section
variable {P:Program} {tb:List (dF P)} {L:SS} {o:Oper} {K:Ef->Option Sv->Prop} {β:Type} {res:β} {t u el:TypeId} {x y a c:Operand} {T E:dF P} {α:Type}
theorem df(i off j:Nat){l:List Lf}{rp:bQ α}{κ:Bool}{xs:List α}(hi:aQ L.bC i=some (.box l):=by rfl)(hj:aQ L.bC j=some (.row rp κ xs):=by rfl)(hl:l[off]?=some (.own j):=by rfl)(hne:Nat.beq i L.nx=false:=by rfl)(hij:Nat.beq i j=false:=by rfl):
 Vw L ⟨1,[(i,some (.box (l.set off (.own L.nx)))),(L.nx,some (.row rp κ xs)),(j,none)],[]⟩:=by
 refine⟨fun X w0 H0 ν oF e w ho hn hS hs=>?_⟩;have hx:=hn L.nx (bK _) (by show L.nx<L.nx+1;omega);obtain⟨b,c,n,k,p1,p2,p3⟩:=hS.cT j _ (ho j _ hj);obtain⟨g1,g2⟩:=hS.dp (ob:=.row rp κ xs) (c':=c) (n':=n) rfl (ho j _ hj) p1 hx (jr p2) (fun H' hH=>by
  obtain⟨e1,e0,cs,sp,e2,e3,e4⟩:=p3;exact⟨e1,e0,cs,sp,e2,e3.mono (hH κ),e4⟩)
 have hoi:bJ [(L.nx,some (Ob.row rp κ xs)),(j,none)] oF i=some (.box l):=by
  show(bif Nat.beq i L.nx then _ else bif Nat.beq i j then _ else oF i)=_;rw[hne,hij];exact ho _ _ hi
 have hjn:j≠L.nx:=by rintro rfl;rw[p1]at hx;cases hx
 obtain⟨k1,k2⟩:=g1.review (up:=[(i,some (.box (l.set off (.own L.nx))))]) (fun q o hq=>by
  simp only[cP,np]at hq;obtain⟨rfl,rfl⟩:=hq;refine⟨.box l,_,rfl,hoi,rfl,?_⟩;rintro c' n' k' ⟨vs,q1,q2⟩;obtain⟨y,q3,b',c2,n2,q4,q5⟩:=q2.get hl;rw[Ah hjn,p1]at q4;cases q4;have:=q2.set (i:=off) (x:=.own L.nx) (y:=y) ⟨_,_,_,lh,q5⟩;rw[vB q3]at this;exact⟨vs,q1,this⟩)
 refine⟨_,oS,k1,fun κ'=>?_,my⟩;have:HF X w0 H0 (iX ν L.nx (b,c,n)) (bJ [(i,some (Ob.box (l.set off (.own L.nx)))),(L.nx,some (.row rp κ xs)),(j,none)] oF) w=HF X w0 H0 (iX ν L.nx (b,c,n)) (bJ [(L.nx,some (.row rp κ xs)),(j,none)] oF) w:=k2;rw[this];exact g2 κ'
def numG:Nat->List (Option Ob)->List (Nat×Option Ob)
 |_,[]=>[]
 |i,x::r=>(i,x)::numG (i+1) r
def cH(n:Nat)(cT:List (Option Ob))(bP:List (Nat×Option Sv)):SS:=⟨n,numG 0 cT,bP⟩
end
open Go Go.RowKit Go.X
variable [eW]
theorem Mo{α:Type}{L:SS}{w:World}{rp:bQ α}{κ:Bool}{xs:List α}{j:Nat}{ν:Nu}{H:Bool->Hp}(hO:∀i ob,aQ L.bC i=some ob->∃b c n k,ν i=some (b,c,n)/\dC w b k/\ob.R ν H c n k)(hj:aQ L.bC j=some (.aG rp κ xs)):
 ∃b c n k,ν j=some (b,c,n)/\dC w b k/\(rp.sz==0)=false/\((n=xs.length/\∃cs sp,k=.cells ([]++(cs++sp))/\bS rp (H κ) cs xs/\(cs++sp).length=c*rp.sz)\/(n=xs.length+1/\k=.cells [])):=by
 obtain⟨b,c,n,k,q1,q2,q3,q4⟩:=hO j _ hj;exact⟨b,c,n,k,q1,q2,q3,q4⟩
section
variable {P:Program} {tb:List (dF P)} {L:SS} {o:Oper} {K:Ef->Option Sv->Prop} {β:Type} {res:β} {t u el:TypeId} {x y:Operand} {T E:dF P} {kk:IntKind}
theorem ixA{α:Type}{rp:bQ α}{κ:Bool}{xs:List α}{i:Int}{f:α->Option β}{j:Nat}(h:(idx xs i).bind f=some res)(nx:∀a,f a=some res->K .z (some (.pa j rp κ xs a i 0)))
 (ho:o.op=.indexAddr t x y:=by rfl)(hx:bN L x=some (.s (.lf (.ap j rp κ xs))):=by rfl)(hj:aQ L.bC j=some (.aG rp κ xs):=by rfl)(hy:lv (bN L y)=some (.int kk i):=by rfl)(hT:cE tb t=some T:=by rfl)(hd:T.d=.slice el:=by rfl)(hE:cE tb el=some E:=by rfl)(hz:E.sz=rp.sz:=by rfl):bZ tb o L K:=by
 obtain⟨a,q1,q2⟩:=bind_some h;obtain⟨n,q3,q4⟩:=rj q1;refine bZ.of (LT.look fun ν H e w hv ht hO hS=>?_) (nx a q2);rw[ho];obtain⟨b,c,m,k,g1,g2,g3,g4⟩:=Mo hO hj;obtain⟨b',c',n',m1,m2⟩:(Lf.ap j rp κ xs).R ν H (ev e x):=db hS hx;rw[g1]at m1;cases m1;rcases m2 with⟨m2,m3,m4⟩|⟨m2,m3,m4⟩
 . rcases g4 with⟨g4,cs,sp,rfl,g5,g6⟩|⟨g4,_⟩
   . obtain⟨b,rfl⟩:=BO g2 g5 g3 q4;exact aF.ET (r:=rp) (q:=n*rp.sz+0) (gm hT hd) (iP hE hz) m4 m2 (eJ hS hy).1 q3 (dS.1 q4).1 (by omega) ⟨rfl,some b,_,_,n,g1,q3,q4,.inl ⟨m2,b,rfl,rfl⟩⟩
   . omega
 . obtain⟨b2,o',cap,vs,r1,r2,r3,r4⟩:=m3.get q4;exact aF.IY (gm hT hd) (iP hE hz) rfl r1 (eJ hS hy).1 q3 q4 rfl ⟨rfl,b,_,_,n,g1,q3,q4,.inr ⟨m2,b2,o'+n*rp.sz,vs,rfl,r3,r4⟩⟩
theorem ldA{α:Type}{rp:bQ α}[aO rp]{κ:Bool}{xs:List α}{a:α}{i:Int}{j off:Nat}{s:S1}(nx:K .z (some (.s s)))
 (ho:o.op=.load t x:=by rfl)(hx:bN L x=some (.pa j rp κ xs a i off):=by rfl)(hj:aQ L.bC j=some (.aG rp κ xs):=by rfl)(hT:cE tb t=some T:=by rfl)(hl:sW (iG T.d) T.sz (aO.cl rp κ a) off=some s:=by rfl):bZ tb o L K:=by
 refine bZ.of (LT.look fun ν H e w hv ht hO hS=>?_) nx;rw[ho];obtain⟨b,c,m,k,g1,g2,g3,g4⟩:=Mo hO hj;obtain⟨b',c',n',m',m1,m2,m3,m4⟩:=db hS hx;rw[g1]at m1;cases m1;rcases m4 with⟨m4,b2,rfl,m5⟩|⟨m4,b2,o2,vs,m5,m6,m7⟩
 . rcases g4 with⟨g4,cs,sp,rfl,g5,g6⟩|⟨g4,_⟩
   . obtain⟨vs,v1,v2,v3⟩:=Fb (pre:=[]) (sp:=sp) g5 m3;simp only[dM,eK]at v3;rcases uD hl (aO.op v2:cS ν H _ vs)with⟨h1,v,h2,h3⟩|⟨h1,us,h2,h3,h4⟩
     . have hp:=Bh (us:=[v]) (q:=off) v3 (by
        rw[ku];obtain⟨hlt,hv⟩:=dS.1 h2;rw[fD hlt,hv];rfl)
       exact aF.Je (gx hT) h1 m5 g2 hp ⟨rfl,h3⟩
     . exact aF.Dd (gx hT) h1 (fV hT) m5 g2 h2 (Bh v3 h3) ⟨rfl,h4⟩
   . omega
 . rcases uD hl (aO.op m7:cS ν H _ vs)with⟨h1,v,h2,h3⟩|⟨h1,us,h2,h3,h4⟩
   . refine aF.Jl (H:=H κ) (v:=v) (gx hT) h1 m5 (hv κ) ?_ ⟨rfl,h3⟩;refine m6.part off ?_;have hlt:=(dS.1 h2).1;rw[fD hlt];have:=(dS.1 h2).2;simp[this]
   . exact aF.Jg (H:=H κ) (gx hT) h1 (fV hT) m5 h2 (hv κ) (m6.part off h3) ⟨rfl,h4⟩
theorem apA{α:Type}(κn:Bool){rp:bQ α}{κ κs:Bool}{xs ys:List α}{bs:Nat}{f:List α->Option β}{a c:Operand}{j:Nat}{l:Lf}(h:(cM bs xs ys).bind f=some res)
 (nx:∀Y,f Y=some res->K ⟨1,[(L.nx,some (.row rp κn Y)),(j,none)],[]⟩ (some (.s (.lf (.own L.nx)))))
 (ho:o.op=.call {callee:=.builtin .append,args:=#[a,c],argTypes:=#[t,t]}:=by rfl) (ha:bN L a=some (.s (.lf (.ap j rp κ xs))):=by rfl) (hj:aQ L.bC j=some (.aG rp κ xs):=by rfl) (hc:bN L c=some (.s (.lf l)):=by rfl)
 (hs:vq L rp κs ys l:=by first|exact .ro|exact .own rfl) (hp:Nat.blt 0 ys.length=true:=by rfl) (hT:cE tb t=some T:=by rfl) (hd:T.d=.slice el:=by rfl) (hE:cE tb el=some E:=by rfl) (hz:E.sz=rp.sz:=by rfl) (hb:E.pY=bs:=by rfl) (hq:Nat.beq E.z.cells.size rp.sz=true:=by rfl)
 (hk:bW κ κn=true:=by rfl) (hks:bW κs κn=true\/tB rp:=by first|exact .inl rfl|exact .inr fun _ _ _ _ h=>h):bZ tb o L K:=by
 obtain⟨Y,q1,q2⟩:=bind_some h;obtain⟨q3,q4,q5⟩:=zr q1;refine bZ.of (LT.rp hj fun ν H e w b cp n k0 hv ht hO hS p1 p2 p3=>?_) (nx Y q2);rw[ho];obtain⟨g7,p3⟩:=p3;obtain⟨b',c',n',m1,m2⟩:(Lf.ap j rp κ xs).R ν H (ev e a):=db hS ha;rw[p1]at m1;cases m1;obtain⟨ds,d1,d2⟩:=Cy (κn:=κn) hv ht hO hs hks (db hS hc);subst hb;rcases p3 with⟨e1,cs,sp,rfl,g5,g6⟩|⟨e1,rfl⟩
 . rcases m2 with⟨m2,m3,m4⟩|⟨m2,_,_⟩
   . refine aF.Lk (H:=H κn) (gm hT hd) (iP hE hz) (dI hq) g7 m4 rfl (jr p2) (i:=0) rfl rfl (g5.mono (va ht hk)) e1 g6 d1 d2 q3 q4 q5 ?_;intro ob' cap' sp' ds' w' hE' hcap hL' hst;exact⟨ob',cap',Y.length,_,hL',fun ν' H' hν hH=>⟨rfl,g7,ds',sp',rfl,hE'.mono (hH κn),hcap⟩,fun ν' H' hν hH hn=>⟨ob',cap',Y.length,hn,rfl⟩⟩
   . omega
 . rcases m2 with⟨m2,_,_⟩|⟨m2,m3,m4⟩
   . omega
   . have hR:=Rs.mono m3 (va ht hk);have e1:=IN (hv κn);rw[e1]at hR d2;have hdrop:Go.X.Loc [b] [] w w [] []:=by
      have:=(jr p2).drop 0;exact this.1
     refine aF.Hb (gm hT hd) (iP hE hz) (dI hq) g7 rfl rfl hR m4 d1 d2 (by simpa using hp) q3 q4 q5 hdrop fun b2 cap sp cs w' h1 h2 h3 h4=>?_;rw[<-e1]at h1;exact⟨some b2,cap,Y.length,_,h3,fun ν' H' hν hH=>⟨rfl,g7,cs,sp,rfl,h1.mono (hH κn),h2⟩,fun ν' H' hν hH hn=>⟨some b2,cap,Y.length,hn,rfl⟩⟩
theorem fa{α:Type}(i off:Nat){l:List Lf}{j:Nat}{rp:bQ α}{κ:Bool}{xs:List α}(hi:aQ L.bC i=some (.box l):=by rfl)(hl:l[off]?=some (.ap j rp κ xs):=by rfl)(hj:aQ L.bC j=some (.aG rp κ xs):=by rfl):
 Vw L ⟨0,[(i,some (.box (l.set off (.ro rp κ xs)))),(j,none)],[]⟩:=by
 refine⟨fun X w0 H0 ν oF e w ho hn hS hs=>?_⟩;obtain⟨b,c,n,kk,q1,q2,e0,q3⟩:=hS.cT j _ (ho j _ hj);obtain⟨g1,g2⟩:=hS.go (T:=[j]) (O:=[b]) (new:=[]) (oF':=bJ [(j,none)] oF) (ν':=ν) (fun b' hb=>by simp only[cP]at hb;exact⟨j,by simp,_,ho j _ hj,by rw[ep q1,hb]⟩) ((jr q2).drop 0).1 (eR.refl ν) rfl (by simp)
  (fun i o h=>by
   rcases jI h with h|⟨h,h2⟩
   . simp at h
   . refine .inl ⟨h,fun hm=>?_⟩;simp only[cP]at hm;subst hm;simp[cr]at h2)
  (fun _ x hx=>by cases hx) (fun x hx=>by cases hx) ⟨rfl,rfl⟩
 have hij:i≠j:=by rintro rfl;rw[hi]at hj;cases hj
 have hbe:Nat.beq i j=false:=by
  cases hb:Nat.beq i j with
  |false=>rfl
  |true=>exact absurd (dI hb) hij
 obtain⟨k1,k2⟩:=g1.review (up:=[(i,some (.box (l.set off (.ro rp κ xs))))]) (fun i' o hj'=>by
  simp only[cP,np]at hj';obtain⟨rfl,rfl⟩:=hj';refine⟨.box l,_,rfl,?_,rfl,?_⟩
  . show(bif Nat.beq i' j then none else oF i')=_;rw[hbe];exact ho _ _ hi
  . rintro c' n' k' ⟨vs,r1,r2⟩;obtain⟨y,r3,r4⟩:=r2.get hl;have hy:(Lf.ro rp κ xs).R ν (HF X w0 H0 ν (bJ [(j,none)] oF) w) y:=by
     obtain⟨b',c2,n2,s1,s2⟩:=r4;rw[q1]at s1;cases s1;rcases s2 with⟨s2,s3,s4⟩|⟨s2,s3,s4⟩
     . rcases q3 with⟨q3,cs,sp,rfl,e3,e4⟩|⟨q3,_⟩
       . rw[s4];cases b with
         |none=>exact qB q2 e3 e0
         |some b=>
          have hno:¬Ow ν (bJ [(j,none)] oF) b:=by
           rintro⟨i',ob,r2,r3⟩;rcases jI r2 with h|⟨h,h2⟩
           . simp at h
           . have:=hS.gG i' j ob _ b h (ho j _ hj) r3 (.inl (ep q1));subst this;simp[cr]at h2
          exact wS (px q2 fun q hq=>k9 (hS.fresh j _ b (ho j _ hj) (.inl (ep q1))) hno (vn q2 hq)) (e3.mono (g2 κ)) e0 rfl q3 e4
       . omega
     . exact s3
    have:=r2.set (i:=off) (x:=.ro rp κ xs) (y:=y) hy;rw[vB r3]at this;exact⟨vs,r1,this⟩)
 rw[<-oZ]at k1 k2;refine⟨ν,iz.refl,k1,fun κ=>?_,my⟩;have k3:HF X w0 H0 ν (bJ [(i,some (Ob.box (l.set off (.ro rp _ xs)))),(j,none)] oF) w=HF X w0 H0 ν (bJ [(j,none)] oF) w:=k2;rw[k3];exact g2 κ
theorem ca{α:Type}(i off:Nat){l:List Lf}{rp:bQ α}{κ:Bool}{xs:List α}(hi:aQ L.bC i=some (.box l):=by rfl)(hl:l[off]?=some (.cp rp κ xs):=by rfl)(hne:Nat.beq i L.nx=false:=by rfl)(hz:(rp.sz==0)=false:=by rfl):
 Vw L ⟨1,[(i,some (.box (l.set off (.ap L.nx rp κ xs)))),(L.nx,some (.aG rp κ xs))],[]⟩:=by
 refine⟨fun X w0 H0 ν oF e w ho hn hS hs=>?_⟩;have hx:=hn L.nx (bK _) (by show L.nx<L.nx+1;omega);obtain⟨g1,g2⟩:=hS.new (ob:=.aG rp κ xs) (c:=0) (n:=xs.length+1) rfl hx yQ (fun H' _=>⟨hz,.inr ⟨rfl,rfl⟩⟩);have hoi:bJ [(L.nx,some (Ob.aG rp κ xs))] oF i=some (.box l):=by
  show(bif Nat.beq i L.nx then _ else oF i)=_;rw[hne];exact ho _ _ hi
 obtain⟨k1,k2⟩:=g1.review (up:=[(i,some (.box (l.set off (.ap L.nx rp κ xs))))]) (fun j o hj=>by
  simp only[cP,np]at hj;obtain⟨rfl,rfl⟩:=hj;refine⟨.box l,_,rfl,hoi,rfl,?_⟩;rintro c n k ⟨vs,q1,q2⟩;obtain⟨y,q3,q4⟩:=q2.get hl;have:=q2.set (i:=off) (x:=.ap L.nx rp κ xs) (y:=y) ⟨none,0,_,lh,.inr ⟨rfl,q4.1,q4.2⟩⟩;rw[vB q3]at this;exact⟨vs,q1,this⟩)
 rw[<-oZ]at k1 k2;refine⟨_,oS,k1,fun κ=>?_,my⟩;have k3:HF X w0 H0 (iX ν L.nx (none,0,xs.length+1)) (bJ [(i,some (Ob.box (l.set off (.ap L.nx rp _ xs)))),(L.nx,some (.aG rp _ xs))] oF) w=HF X w0 H0 (iX ν L.nx (none,0,xs.length+1)) (bJ [(L.nx,some (.aG rp _ xs))] oF) w:=k2;rw[k3];exact g2 κ
theorem oa{α:Type}(i off:Nat){l:List Lf}{j:Nat}{rp:bQ α}{κ:Bool}{xs:List α}(hi:aQ L.bC i=some (.box l):=by rfl)(hl:l[off]?=some (.own j):=by rfl)(hj:aQ L.bC j=some (.row rp κ xs):=by rfl):
 Vw L ⟨0,[(i,some (.box (l.set off (.ap j rp κ xs)))),(j,some (.aG rp κ xs))],[]⟩:=by
 refine⟨fun X w0 H0 ν oF e w ho hn hS hs=>?_⟩;obtain⟨b,c,n,kk,q1,q2,e1,e0,cs,sp,e2,e3,e4⟩:=hS.cT j _ (ho j _ hj);have hnil:b=none->xs=[]:=fun hb=>by
  subst hb;subst e2;have hq:Rs rp (HF X w0 H0 ν oF w κ) (fk none 0 0 0) xs:=qB q2 e3 e0;rcases hq with⟨_,h⟩|⟨_,_,_,hv,_⟩
  . exact h
  . cases hv
 obtain⟨g1,g2⟩:=hS.review (up:=[(j,some (.aG rp κ xs))]) (fun i' o hj'=>by
  simp only[cP,np]at hj';obtain⟨rfl,rfl⟩:=hj';refine⟨.row rp κ xs,_,rfl,ho _ _ hj,rfl,?_⟩;rintro c' n' k' ⟨r1,r0,cs,sp,r2,r3,r4⟩;exact⟨r0,.inl ⟨r1,cs,sp,r2,r3,r4⟩⟩)
 have hij:i≠j:=by rintro rfl;rw[hi]at hj;cases hj
 have hbe:Nat.beq i j=false:=by
  cases hb:Nat.beq i j with
  |false=>rfl
  |true=>exact absurd (dI hb) hij
 obtain⟨k1,k2⟩:=g1.review (up:=[(i,some (.box (l.set off (.ap j rp κ xs))))]) (fun i' o hj'=>by
  simp only[cP,np]at hj';obtain⟨rfl,rfl⟩:=hj';refine⟨.box l,_,rfl,?_,rfl,?_⟩
  . show(bif Nat.beq i' j then _ else oF i')=_;rw[hbe];exact ho _ _ hi
  . rintro c' n' k' ⟨vs,r1,r2⟩;obtain⟨y,r3,b',c2,n2,s1,s2⟩:=r2.get hl;rw[q1]at s1;cases s1;have:=r2.set (i:=off) (x:=.ap j rp κ xs) (y:=y) ⟨b,c,n,q1,.inl ⟨e1,hnil,s2⟩⟩;rw[vB r3]at this;exact⟨vs,r1,this⟩)
 rw[<-oZ]at k1 k2;refine⟨ν,iz.refl,k1,fun κ'=>?_,my⟩;have k3:HF X w0 H0 ν (bJ [(i,some (Ob.box (l.set off (.ap j rp κ xs)))),(j,some (.aG rp κ xs))] oF) w=HF X w0 H0 ν (bJ [(j,some (.aG rp κ xs))] oF) w:=k2;rw[k3,g2];exact Le.refl _
theorem fv{P:Program}{α ρ:Type}(t:Nat)(az:α->List S1)(rs:ρ->List S1)(f:α->Option ρ){fid:FuncId}(c:∀x r,f x=some r->Cx P fid (az x) [] [] (rs r))(he:Enters P fid)(ht:aQ L.bP t=some (.s (.lf (.v (.func (.func fid) #[] #[])))):=by rfl):Vw L ⟨0,[],[(t,some (.s (.lf (.pd (iF P az rs f)))))]⟩:=by
 refine⟨fun X w0 H0 ν oF e w ho hn hS hs=>⟨ν,iz.refl,hS,fun _=>Le.refl _,fun t' sv h=>?_⟩⟩;have h:(bif Nat.beq t' t then some (Sv.s (.lf (.pd (iF P az rs f))))else none)=some sv:=h;cases hb:Nat.beq t' t with
 |false=>rw[hb]at h;cases h
 |true=>
  rw[hb]at h;cases h;have e1:=dI hb;subst e1;have h1:(Lf.v (.func (.func fid) #[] #[])).R ν (HF X w0 H0 ν oF w) (e t'):=hs _ _ ht;have h2:=(pF.f (P:=P) az rs f c he .n).ok (ν:=ν) (H:=HF X w0 H0 ν oF w) (v:=[e t']) ⟨_,[],rfl,h1,rfl⟩;obtain⟨a,r,h3,h4,h5⟩:=h2;cases h3;exact h4
theorem eG{α:Type}(i off j:Nat){l:List Lf}{rp:bQ α}{κ:Bool}{xs:List α}(hi:aQ L.bC i=some (.box l):=by rfl)(hj:aQ L.bC j=some (.aG rp κ xs):=by rfl)(hl:l[off]?=some (.ap j rp κ xs):=by rfl)(hne:Nat.beq i L.nx=false:=by rfl)(hij:Nat.beq i j=false:=by rfl):
 Vw L ⟨1,[(i,some (.box (l.set off (.ap L.nx rp κ xs)))),(L.nx,some (.aG rp κ xs)),(j,none)],[]⟩:=by
 refine⟨fun X w0 H0 ν oF e w ho hn hS hs=>?_⟩;have hx:=hn L.nx (bK _) (by show L.nx<L.nx+1;omega);obtain⟨b,c,n,k,p1,p2,p3⟩:=hS.cT j _ (ho j _ hj);obtain⟨g1,g2⟩:=hS.dp (ob:=.aG rp κ xs) (c':=c) (n':=n) rfl (ho j _ hj) p1 hx (jr p2) (fun H' hH=>⟨p3.1,p3.2.imp (fun⟨e1,cs,sp,e2,e3,e4⟩=>⟨e1,cs,sp,e2,e3.mono (hH κ),e4⟩) id⟩);have hoi:bJ [(L.nx,some (Ob.aG rp κ xs)),(j,none)] oF i=some (.box l):=by
  show(bif Nat.beq i L.nx then _ else bif Nat.beq i j then _ else oF i)=_;rw[hne,hij];exact ho _ _ hi
 have hjn:j≠L.nx:=by rintro rfl;rw[p1]at hx;cases hx
 obtain⟨k1,k2⟩:=g1.review (up:=[(i,some (.box (l.set off (.ap L.nx rp κ xs))))]) (fun q o hq=>by
  simp only[cP,np]at hq;obtain⟨rfl,rfl⟩:=hq;refine⟨.box l,_,rfl,hoi,rfl,?_⟩;rintro c' n' k' ⟨vs,q1,q2⟩;obtain⟨y,q3,b',c2,n2,q4,q5⟩:=q2.get hl;rw[Ah hjn,p1]at q4;cases q4;have:=q2.set (i:=off) (x:=.ap L.nx rp κ xs) (y:=y) ⟨_,_,_,lh,q5⟩;rw[vB q3]at this;exact⟨vs,q1,this⟩)
 refine⟨_,oS,k1,fun κ'=>?_,my⟩;have:HF X w0 H0 (iX ν L.nx (b,c,n)) (bJ [(i,some (Ob.box (l.set off (.ap L.nx rp κ xs)))),(L.nx,some (.aG rp κ xs)),(j,none)] oF) w=HF X w0 H0 (iX ν L.nx (b,c,n)) (bJ [(L.nx,some (.aG rp κ xs)),(j,none)] oF) w:=k2;rw[this];exact g2 κ'
end
theorem RO{is:List Nat}{U:List (Nat×Option Ob)}{g oF:OF}(hk:U.map (·.1)=is)(hg:is.map (aQ U)=is.map g)(hs:is.all (fun i=>(g i).isSome)=true)(ho:∀i ob,g i=some ob->oF i=some ob):bJ (U++gW is) oF=oF:=by
 funext i;rw[oZ];cases hm:cr i is with
 |false=>
  rw[jY (by rw[hk];exact hm),jY (by rw[Ak];exact hm)]
 |true=>
  have h1:bJ U (bJ (gW is) oF) i=bJ U (fun _=>none) i:=qb (by rw[hk];exact hm);have h2:aQ (U++[]) i=bJ U (aQ []) i:=qK _ _ _;rw[lK]at h2;rw[h1];have h3:bJ U (fun _=>none) i=aQ U i:=h2.symm;rw[h3];have hmem:i∈is:=ja.1 hm;have h4:aQ U i=g i:=by
   have:∀(l:List Nat),l.map (aQ U)=l.map g->i∈l->aQ U i=g i:=by
    intro l
    induction l with
    |nil=>intro _ h;cases h
    |cons a r ih=>
     intro h hi;simp only[jN,MS]at h;rcases eb.1 hi with e|e
     . subst e;exact h.1
     . exact ih h.2 e
   exact this is hg hmem
  rw[h4];have h5:=tg.1 hs i hmem;cases hgi:g i with
  |none=>rw[hgi]at h5;cases h5
  |some ob=>exact(ho i ob hgi).symm
section
variable {P:Program} {tb:List (dF P)} {L:SS} {o:Oper} {K:Ef->Option Sv->Prop} {β:Type} {res:β}
theorem eV(md:Option Bool)(is:List Nat){ρ:Type}{g:Option ρ}{f:ρ->Option β}{fid:FuncId}{args:List Operand}{ats:Array TypeId}{ls az:List S1}{ib:List Ob}{out:ρ->List (Nat×Option Ob)}{rs:ρ->List S1}
 (h:g.bind f=some res)(c:∀r,g=some r->Cx P fid az ib (out r) (rs r))(nx:∀r,f r=some res->K .z (some (oE ((rs r).map (kM md is L.nx)))))
 (ho:o.op=.call {callee:=.value (.func fid),args:=args.toArray,argTypes:=ats}:=by rfl)(ha:nP L args=some ls:=by rfl)(hl:kg md (aQ L.bC) is ls az=some az:=by rfl)(hb:iZ md (aQ L.bC) is is ib=some ib:=by rfl)(hn:fL is=true:=by rfl)
 (h1:∀r,nY md (is.length+0) (out r)=true:=by intro r;rfl)(h2:∀r,(rs r).all (o5 md (is.length+0))=true:=by intro r;rfl)(h3:∀r,fL ((out r).map (·.1))=true:=by intro r;rfl)
 (k1:∀r,(eZ md is L.nx (out r)).map (·.1)=is:=by intro r;rfl)(k2:∀r,is.map (aQ (eZ md is L.nx (out r)))=is.map (aQ L.bC):=by intro r;rfl)(k3:is.all (fun i=>(aQ L.bC i).isSome)=true:=by rfl):bZ tb o L K:=by
 obtain⟨r,q1,q2⟩:=bind_some h;refine bZ.of ⟨fun X w0 H0 ν oF e w hO hn' hS hs=>?_⟩ (nx r q2);rw[ho];have hlt:=(Io md is 0 (ats:=ats) (ty:=o.type) (c r q1) ha hl hb hn (h1 r) (h2 r) (h3 r)).ok X w0 H0 ν oF e w hO (fun k hk hk'=>absurd hk' (by show¬k<L.nx+0;omega)) hS hs;have e1:bJ (eZ md is L.nx (out r)++gW is) oF=oF:=RO (k1 r) (k2 r) k3 hO;refine hlt.mono ?_;rintro v w' ⟨ν',g1,g2,g3,g4,g5⟩;rw[e1]at g2 g3 g4 g5;exact⟨ν',g1,g2,g3,g4,g5⟩
end
end Go.Q
