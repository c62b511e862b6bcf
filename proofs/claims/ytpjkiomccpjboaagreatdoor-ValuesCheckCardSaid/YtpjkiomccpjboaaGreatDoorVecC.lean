/- (Where the whole of package vector is there: nothing but its texts.) -/
import Derived.Test.YtpjkiomccpjboaaGreatDoorVec3
